/-
 How values stand: the program's Compare.
-/
import Derived.Test.YtblhbdagpefloaaGreatDoorText2
set_option linter.unusedSimpArgs false
set_option linter.unusedVariables false
set_option linter.unusedSectionVars false
set_option linter.unnecessarySimpa false
set_option maxRecDepth 100000
namespace Ab.Vx
open Go
variable {E:Nat→Option Fn}
theorem zyk (h108:E 108=some (.code Zaw))(l:List UInt8):lcall E 108 [.d (.l 1 (zca l))] []=some (.ptr 0 0,[zf7 l 0]):=by
 refine zbc h108 ?_
 refine zac (zaa fun K hK=>?_)
 simp only [evW,evX,evM,evN]
 refine hK _ _ ?_; clear hK K
 refine zac (zaa fun K hK=>?_)
 simp only [evW,evX,evM,evN,simprocAttr]
 refine hK _ _ ?_; clear hK K
 refine zap ⟨.inr rfl, ?_⟩
 simp only [evR,evX,evC,evN,↓reduceIte,far,Zaw]
 rfl
def c3 (lt gt:Bool):Int:=if lt then -1 else if gt then 1 else 0
theorem z5w (hk:E 143=some (.code c143))(x:Int):lcall E 143 [.d (.i .i64 x)] []=some (.d (.b false),[]):=by
 refine zbc hk ?_
 refine zac (zaa fun K hK=>?_)
 simp only [evW,evX,evM,evN]
 refine hK _ _ ?_; clear hK K
 refine zac (zaa fun K hK=>?_)
 simp only [evW,evX,evM,evN,not_true_eq_false,simprocAttr]
 refine hK _ _ ?_; clear hK K
 refine zap ⟨.inr rfl, ?_⟩
 simp only [evR,evX,evC,evN,↓reduceIte,far,c143]
theorem Zbh (hk:E 143=some (.code c143))(hc:E 127=some (.code c127))(x y:Int):lcall E 127 [.d (.i .i64 x),.d (.i .i64 y)] []=some (.d (.i .i64 (c3 (decide (x < y)) (decide (y < x)))),[]):=by
 have n1:=z5w hk x
 have n2:=z5w hk y
 refine zbc hc ?_
 refine zac (zaa fun K hK=>?_)
 simp only [evW,evX,evM,evN,Nat.reduceAdd]
 refine hK _ _ ?_; clear hK K
 refine zac (zaa fun K hK=>?_)
 simp only [evW,evX,evM,evN,evC,far,n1,simprocAttr]
 refine hK _ _ ?_; clear hK K
 refine zac (zaa fun K hK=>?_)
 simp only [evW,evX,evM,evN,evC,far,n2,simprocAttr]
 refine hK _ _ ?_; clear hK K
 refine zac (zac ?_)
 refine zaa fun K hK=>?_
 simp only [evW,evX,evM,evN,simprocAttr]
 refine hK _ _ ?_; clear hK K
 refine zaf false rfl (fun h=>by cases h) (fun _=>zay ?_)
 refine zac (zac ?_)
 refine zaa fun K hK=>?_
 simp only [evW,evX,evM,evN,simprocAttr]
 refine hK _ _ ?_; clear hK K
 refine zaf false rfl (fun h=>by cases h) (fun _=>zay ?_)
 refine zac (zac ?_)
 refine zaa fun K hK=>?_
 simp only [evW,evX,evM,evN,simprocAttr]
 refine hK _ _ ?_; clear hK K
 refine zaf _ rfl (fun h=>?_) (fun h=>zay ?_)
 ·refine zac (zaa fun K hK=>?_)
  simp only [evW,evX,evM,evN,Int.reduceNeg]
  refine hK _ _ ?_; clear hK K
  refine zap ⟨.inr rfl, ?_⟩
  simp only [evR,evX,evC,evN,↓reduceIte,far,c127,c3,h]
 ·refine zac (zac ?_)
  refine zaa fun K hK=>?_
  simp only [evW,evX,evM,evN,simprocAttr]
  refine hK _ _ ?_; clear hK K
  refine zaf _ rfl (fun h2=>?_) (fun h2=>zay ?_)
  ·refine zac (zaa fun K hK=>?_)
   simp only [evW,evX,evM,evN]
   refine hK _ _ ?_; clear hK K
   try simp only [h,Bool.false_or] at h2
   refine zap ⟨.inr rfl, ?_⟩
   simp only [evR,evX,evC,evN,↓reduceIte,far,c127,c3,h,h2]
  ·refine zac (zaa fun K hK=>?_)
   simp only [evW,evX,evM,evN]
   refine hK _ _ ?_; clear hK K
   try simp only [h,Bool.false_or] at h2
   refine zap ⟨.inr rfl, ?_⟩
   simp only [evR,evX,evC,evN,↓reduceIte,far,c127,c3,h,h2]
theorem z5x (hk:E 144=some (.code Za5))(x:Int):lcall E 144 [.d (.i .i64 x)] []=some (.d (.b false),[]):=by
 refine zbc hk ?_
 refine zac (zaa fun K hK=>?_)
 simp only [evW,evX,evM,evN]
 refine hK _ _ ?_; clear hK K
 refine zac (zaa fun K hK=>?_)
 simp only [evW,evX,evM,evN,not_true_eq_false,simprocAttr]
 refine hK _ _ ?_; clear hK K
 refine zap ⟨.inr rfl, ?_⟩
 simp only [evR,evX,evC,evN,↓reduceIte,far,Za5]
theorem Zbi (hk:E 144=some (.code Za5))(hc:E 128=some (.code z3c))(x y:Int):lcall E 128 [.d (.i .i64 x),.d (.i .i64 y)] []=some (.d (.i .i64 (c3 (decide (x < y)) (decide (y < x)))),[]):=by
 have n1:=z5x hk x
 have n2:=z5x hk y
 refine zbc hc ?_
 refine zac (zaa fun K hK=>?_)
 simp only [evW,evX,evM,evN,Nat.reduceAdd]
 refine hK _ _ ?_; clear hK K
 refine zac (zaa fun K hK=>?_)
 simp only [evW,evX,evM,evN,evC,far,n1,simprocAttr]
 refine hK _ _ ?_; clear hK K
 refine zac (zaa fun K hK=>?_)
 simp only [evW,evX,evM,evN,evC,far,n2,simprocAttr]
 refine hK _ _ ?_; clear hK K
 refine zac (zac ?_)
 refine zaa fun K hK=>?_
 simp only [evW,evX,evM,evN,simprocAttr]
 refine hK _ _ ?_; clear hK K
 refine zaf false rfl (fun h=>by cases h) (fun _=>zay ?_)
 refine zac (zac ?_)
 refine zaa fun K hK=>?_
 simp only [evW,evX,evM,evN,simprocAttr]
 refine hK _ _ ?_; clear hK K
 refine zaf false rfl (fun h=>by cases h) (fun _=>zay ?_)
 refine zac (zac ?_)
 refine zaa fun K hK=>?_
 simp only [evW,evX,evM,evN,simprocAttr]
 refine hK _ _ ?_; clear hK K
 refine zaf _ rfl (fun h=>?_) (fun h=>zay ?_)
 ·refine zac (zaa fun K hK=>?_)
  simp only [evW,evX,evM,evN,Int.reduceNeg]
  refine hK _ _ ?_; clear hK K
  refine zap ⟨.inr rfl, ?_⟩
  simp only [evR,evX,evC,evN,↓reduceIte,far,z3c,c3,h]
 ·refine zac (zac ?_)
  refine zaa fun K hK=>?_
  simp only [evW,evX,evM,evN,simprocAttr]
  refine hK _ _ ?_; clear hK K
  refine zaf _ rfl (fun h2=>?_) (fun h2=>zay ?_)
  ·refine zac (zaa fun K hK=>?_)
   simp only [evW,evX,evM,evN]
   refine hK _ _ ?_; clear hK K
   try simp only [h,Bool.false_or] at h2
   refine zap ⟨.inr rfl, ?_⟩
   simp only [evR,evX,evC,evN,↓reduceIte,far,z3c,c3,h,h2]
  ·refine zac (zaa fun K hK=>?_)
   simp only [evW,evX,evM,evN]
   refine hK _ _ ?_; clear hK K
   try simp only [h,Bool.false_or] at h2
   refine zap ⟨.inr rfl, ?_⟩
   simp only [evR,evX,evC,evN,↓reduceIte,far,z3c,c3,h,h2]
theorem z5y (hk:E 145=some (.code c145))(x:List UInt8):lcall E 145 [.d (.s x)] []=some (.d (.b false),[]):=by
 refine zbc hk ?_
 refine zac (zaa fun K hK=>?_)
 simp only [evW,evX,evM,evN]
 refine hK _ _ ?_; clear hK K
 refine zac (zaa fun K hK=>?_)
 simp only [evW,evX,evM,evN,not_true_eq_false,simprocAttr]
 refine hK _ _ ?_; clear hK K
 refine zap ⟨.inr rfl, ?_⟩
 simp only [evR,evX,evC,evN,↓reduceIte,far,c145]
theorem zyl (hk:E 145=some (.code c145))(hc:E 129=some (.code zw5))(x y:List UInt8):lcall E 129 [.d (.s x),.d (.s y)] []=some (.d (.i .i64 (c3 (bytesLess x y) (!(bytesLess x y || x == y)))),[]):=by
 have n1:=z5y hk x
 have n2:=z5y hk y
 refine zbc hc ?_
 refine zac (zaa fun K hK=>?_)
 simp only [evW,evX,evM,evN,Nat.reduceAdd]
 refine hK _ _ ?_; clear hK K
 refine zac (zaa fun K hK=>?_)
 simp only [evW,evX,evM,evN,evC,far,n1,simprocAttr]
 refine hK _ _ ?_; clear hK K
 refine zac (zaa fun K hK=>?_)
 simp only [evW,evX,evM,evN,evC,far,n2,simprocAttr]
 refine hK _ _ ?_; clear hK K
 refine zac (zac ?_)
 refine zaa fun K hK=>?_
 simp only [evW,evX,evM,evN,simprocAttr]
 refine hK _ _ ?_; clear hK K
 refine zaf false rfl (fun h=>by cases h) (fun _=>zay ?_)
 refine zac (zac ?_)
 refine zaa fun K hK=>?_
 simp only [evW,evX,evM,evN,simprocAttr]
 refine hK _ _ ?_; clear hK K
 refine zaf false rfl (fun h=>by cases h) (fun _=>zay ?_)
 refine zac (zac ?_)
 refine zaa fun K hK=>?_
 simp only [evW,evX,evM,evN,simprocAttr]
 refine hK _ _ ?_; clear hK K
 refine zaf _ rfl (fun h=>?_) (fun h=>zay ?_)
 ·refine zac (zaa fun K hK=>?_)
  simp only [evW,evX,evM,evN,Int.reduceNeg]
  refine hK _ _ ?_; clear hK K
  refine zap ⟨.inr rfl, ?_⟩
  simp only [evR,evX,evC,evN,↓reduceIte,far,zw5,c3,h]
 ·refine zac (zac ?_)
  refine zaa fun K hK=>?_
  simp only [evW,evX,evM,evN,simprocAttr]
  refine hK _ _ ?_; clear hK K
  refine zaf _ rfl (fun h2=>?_) (fun h2=>zay ?_)
  ·refine zac (zaa fun K hK=>?_)
   simp only [evW,evX,evM,evN]
   refine hK _ _ ?_; clear hK K
   try simp only [h,Bool.false_or] at h2
   refine zap ⟨.inr rfl, ?_⟩
   simp only [evR,evX,evC,evN,↓reduceIte,far,zw5,c3,h,h2]
  ·refine zac (zaa fun K hK=>?_)
   simp only [evW,evX,evM,evN]
   refine hK _ _ ?_; clear hK K
   try simp only [h,Bool.false_or] at h2
   refine zap ⟨.inr rfl, ?_⟩
   simp only [evR,evX,evC,evN,↓reduceIte,far,zw5,c3,h,h2]
def orI:List Int→Int
 | []=>0
 | x :: r=>if x=0 then orI r else x
def zi1 (l:List Int):List (List D):=l.map fun x=>[.i .i64 x]
def Zbj:CCode:=match z59.body with
 | .seq _ (.seq _ (.seq (.seq _ (.block _ (.loop _ c))) _))=>c
 | _=>.skip
theorem z61 {l:List Int}(hl:l.length ≤ 1000){Q:Ex→St→Prop}(hx:∀ tm,zba tm 3 = .d (.i .i64 0)→orI l=0→Q (.exit 0) ⟨tm,[]⟩)(hr:∀ tm,zba tm 2 = .d (.i .i64 (orI l))→Q .ret ⟨tm,[]⟩) :
  ∀ (n i:Nat),i + n=l.length→orI l=orI (l.drop i)→LX E Zbj ⟨[3,6,7,8],[],[],[],[],true⟩ 0 ⟨[(3,.d (.i .i64 0)),(6,.d (.l 1 (zi1 l))),(7,.d (.i .i64 l.length)),(8,.d (.i .i64 i))],[]⟩ Q:=by
 intro n
 induction n with
 | zero =>
  intro i hi ho
  have hn:¬ ((i:Int) < l.length):=by omega
  rw [List.drop_eq_nil_of_le (by omega),orI] at ho
  refine zan ?_
  refine zac (zaa fun K hK=>?_)
  simp only [evW,evX,evM,evN,hn,simprocAttr]
  refine hK _ _ ?_; clear hK K
  refine zac (zaf false rfl (fun h=>by cases h) (fun _=>zb9 ?_))
  exact hx _ rfl ho
 | succ n ihn =>
  intro i hi ho
  have hy:(i:Int) < l.length:=by omega
  have la:i < l.length:=by omega
  have h0:(0:Int) ≤ i:=by omega
  have ga:(zi1 l)[i]?=some [.i .i64 l[i]]:=by simp [zi1,Qd la]
  rw [zbl la,orI] at ho
  generalize l[i]=x at *
  have w:IntKind.i64.wrap ((i:Int) + 1)=((i + 1:Nat):Int):=by rw [i64_in (by omega) (by omega)]; omega
  refine zan ?_
  refine zac (zaa fun K hK=>?_)
  simp only [evW,evX,evM,evN,hy,simprocAttr]
  refine hK _ _ ?_; clear hK K
  refine zac (zaf true rfl (fun _=>zay ?_) (fun h=>by cases h))
  refine zac (za2 ?_)
  refine zac (zaa fun K hK=>?_)
  simp only [evW,evX,evM,evN,h0,Qk,ga,simprocAttr]
  refine hK _ _ ?_; clear hK K
  by_cases e:x=0
  ·rw [if_pos e] at ho
   refine zac (zaa fun K hK=>?_)
   simp only [evW,evX,evM,evN,not_true_eq_false,eq_true e,simprocAttr]
   refine hK _ _ ?_; clear hK K
   refine zaf false rfl (fun h=>by cases h) (fun _=>zay ?_)
   refine zaa fun K hK=>?_
   simp only [evW,evX,evM,evN,w,simprocAttr]
   refine hK _ _ ?_; clear hK K
   refine ⟨_, ?_,ihn (i + 1) (by omega) ho⟩
   simp only [evH,evX,evN,simprocAttr]
  ·rw [if_neg e] at ho
   refine zac (zaa fun K hK=>?_)
   simp only [evW,evX,evM,evN,not_false_eq_true,e,simprocAttr]
   refine hK _ _ ?_; clear hK K
   refine zaf true rfl (fun _=>?_) (fun h=>by cases h)
   refine zac (zaa fun K hK=>?_)
   simp only [evW,evX,evM,evN,simprocAttr]
   refine hK _ _ ?_; clear hK K
   exact zap (hr _ (by rw [ho]; rfl))
theorem Zir (h126:E 126=some (.code z59))(l:List Int)(hl:l.length ≤ 1000):lcall E 126 [.d (.l 1 (zi1 l))] []=some (.d (.i .i64 (orI l)),[]):=by
 have hlen:(zi1 l).length=l.length:=by simp [zi1]
 refine zbc h126 ?_
 refine zac (zaa fun K hK=>?_)
 simp only [evW,evX,evM,evN]
 refine hK _ _ ?_; clear hK K
 refine zac (zaa fun K hK=>?_)
 simp only [evW,evX,evM,evN]
 refine hK _ _ ?_; clear hK K
 refine zac (zac ?_)
 refine zaa fun K hK=>?_
 simp only [evW,evX,evM,evN,hlen,simprocAttr]
 refine hK _ _ ?_; clear hK K
 refine za2 (zcy ?_)
 simp only [evH,evX,evN,simprocAttr]
 refine z61 hl (fun tm t3 ho=>?_) (fun tm t2=>?_) l.length 0 (by omega) rfl
 ·refine zac (zaa fun K hK=>?_)
  simp only [evW,evX,evM,evN,↓reduceIte,t3]
  refine hK _ _ ?_; clear hK K
  refine zap ⟨.inr rfl, ?_⟩
  simp only [evR,evX,evC,evN,↓reduceIte,far,z59,ho]
 ·refine ⟨.inr rfl, ?_⟩
  simp only [evR,evC,evN,far,z59,t2]
def Zbk:CCode:=match z3d.body with
 | .seq _ (.seq (.seq _ (.block _ (.loop _ c))) _)=>c
 | _=>.skip
theorem z62 {f:Nat}{a b:List GVal}(ha:a.length ≤ 1000)(hb:b.length ≤ 1000)(ih:∀ x ∈ a,∀ y ∈ b,lcall E f [x.arg,y.arg] []=some (.d (.i .i64 (zda x y)),[]))
  {Q:Ex→St→Prop} (hx:∀ tm,zba tm 0 = .d (.l 4 (zab a))→zba tm 1 = .d (.l 4 (zab b))→a.length ≤ b.length→zfs a b=zfs [] (b.drop a.length)→Q (.exit 0) ⟨tm,[]⟩)
  (hr:∀ tm hp,zba tm 6 = .d (.i .i64 (zfs a b))→Q .ret ⟨tm,hp⟩) :
  ∀ (n i:Nat),i + n=a.length→i ≤ b.length→zfs a b=zfs (a.drop i) (b.drop i)→LX E Zbk ⟨[0,1,2,11,12,13],[],[],[],[],true⟩ 0 ⟨[(0,.d (.l 4 (zab a))),(1,.d (.l 4 (zab b))),(2,.d (.f f [] [])),(11,.d (.l 4 (zab a))),(12,.d (.i .i64 a.length)),(13,.d (.i .i64 i))],[]⟩ Q:=by
 intro n
 induction n with
 | zero =>
  intro i hi hib hc
  have hna:¬ ((i:Int) < a.length):=by omega
  have:i=a.length:=by omega
  subst this
  rw [List.drop_eq_nil_of_le (Nat.le_refl _)] at hc
  refine zan ?_
  refine zac (zaa fun K hK=>?_)
  simp only [evW,evX,evM,evN,hna,simprocAttr]
  refine hK _ _ ?_; clear hK K
  refine zac (zaf false rfl (fun h=>by cases h) (fun _=>zb9 ?_))
  exact hx _ rfl rfl hib hc
 | succ n ihn =>
  intro i hi hib hc
  have hya:(i:Int) < a.length:=by omega
  have la:i < a.length:=by omega
  have h0:(0:Int) ≤ i:=by omega
  have ga:(zab a)[i]?=some (GVal.row a[i]):=by rw [zaw,Qd la]; rfl
  refine zan ?_
  refine zac (zaa fun K hK=>?_)
  simp only [evW,evX,evM,evN,hya,simprocAttr]
  refine hK _ _ ?_; clear hK K
  refine zac (zaf true rfl (fun _=>zay ?_) (fun h=>by cases h))
  refine zac (za2 ?_)
  refine zac (zaa fun K hK=>?_)
  simp only [evW,evX,evM,evN,h0,Qk,ga,zas,simprocAttr]
  refine hK _ _ ?_; clear hK K
  by_cases hib2:i=b.length
  ·have hnb:(b.length:Int) ≤ i:=by omega
   rw [zbl la,List.drop_eq_nil_of_le (show b.length ≤ i by omega),zfs] at hc
   refine zac (zac ?_)
   refine zaa fun K hK=>?_
   simp only [evW,evX,evM,evN,zad,hnb,simprocAttr]
   refine hK _ _ ?_; clear hK K
   refine zaf true rfl (fun _=>?_) (fun h=>by cases h)
   refine zac (zaa fun K hK=>?_)
   simp only [evW,evX,evM,evN]
   refine hK _ _ ?_; clear hK K
   exact zap (hr _ _ (by rw [hc]; rfl))
  ·have hnb:¬ (b.length:Int) ≤ i:=by omega
   have lb:i < b.length:=by omega
   have gb:(zab b)[i]?=some (GVal.row b[i]):=by rw [zaw,Qd lb]; rfl
   have hcall:=ih a[i] (List.getElem_mem la) b[i] (List.getElem_mem lb)
   rw [zbl la,zbl lb,zfs] at hc
   generalize a[i]=x at *
   generalize b[i]=y at *
   refine zac (zac ?_)
   refine zaa fun K hK=>?_
   simp only [evW,evX,evM,evN,zad,hnb,simprocAttr]
   refine hK _ _ ?_; clear hK K
   refine zaf false rfl (fun h=>by cases h) (fun _=>zay ?_)
   refine zac (zaa fun K hK=>?_)
   simp only [evW,evX,evM,evN,h0,Qk,gb,zas,simprocAttr]
   refine hK _ _ ?_; clear hK K
   refine zac (zaa fun K hK=>?_)
   simp only [evW,evX,evM,evN,evC,far,hcall,simprocAttr]
   refine hK _ _ ?_; clear hK K
   have w:IntKind.i64.wrap ((i:Int) + 1)=((i + 1:Nat):Int):=by rw [i64_in (by omega) (by omega)]; omega
   by_cases hxy:zda x y=0
   ·rw [if_pos hxy] at hc
    refine zac (zaa fun K hK=>?_)
    simp only [evW,evX,evM,evN,not_true_eq_false,hxy,simprocAttr]
    refine hK _ _ ?_; clear hK K
    refine zaf false rfl (fun h=>by cases h) (fun _=>zay ?_)
    refine zaa fun K hK=>?_
    simp only [evW,evX,evM,evN,w,simprocAttr]
    refine hK _ _ ?_; clear hK K
    refine ⟨_, ?_,ihn (i + 1) (by omega) (by omega) hc⟩
    simp only [evH,evX,evN,simprocAttr]
   ·rw [if_neg hxy] at hc
    refine zac (zaa fun K hK=>?_)
    simp only [evW,evX,evM,evN,not_false_eq_true,hxy,simprocAttr]
    refine hK _ _ ?_; clear hK K
    refine zaf true rfl (fun _=>?_) (fun h=>by cases h)
    refine zac (zaa fun K hK=>?_)
    simp only [evW,evX,evM,evN,simprocAttr]
    refine hK _ _ ?_; clear hK K
    exact zap (hr _ _ (by rw [hc]; rfl))
theorem Zis (h130:E 130=some (.code z3d)){f:Nat}{a b:List GVal}(ha:a.length ≤ 1000)(hb:b.length ≤ 1000)(ih:∀ x ∈ a,∀ y ∈ b,lcall E f [x.arg,y.arg] []=some (.d (.i .i64 (zda x y)),[])) :
  lcall E 130 [.d (.l 4 (zab a)),.d (.l 4 (zab b)),.d (.f f [] [])] []=some (.d (.i .i64 (zfs a b)),[]):=by
 refine zbc h130 ?_
 refine zac (zaa fun K hK=>?_)
 simp only [evW,evX,evM,evN,Nat.reduceAdd]
 refine hK _ _ ?_; clear hK K
 refine zac (zac ?_)
 refine zaa fun K hK=>?_
 simp only [evW,evX,evM,evN,zad,simprocAttr]
 refine hK _ _ ?_; clear hK K
 refine za2 (zcy ?_)
 simp only [evH,evX,evN,simprocAttr]
 refine z62 ha hb ih (fun tm t0 t1 hle hc=>?_) (fun tm hp t6=>?_) a.length 0 (by omega) (by omega) rfl
 ·refine zac (zac ?_)
  by_cases hl:a.length < b.length
  ·have hl':(a.length:Int) < b.length:=by omega
   rw [zbl hl,zfs] at hc
   refine zaa fun K hK=>?_
   simp only [evW,evX,evM,evN,t0,t1,zad,hl',simprocAttr]
   refine hK _ _ ?_; clear hK K
   refine zaf true rfl (fun _=>?_) (fun h=>by cases h)
   refine zac (zaa fun K hK=>?_)
   simp only [evW,evX,evM,evN,Int.reduceNeg]
   refine hK _ _ ?_; clear hK K
   refine zap ⟨.inr rfl, ?_⟩
   simp only [evR,evX,evC,evN,↓reduceIte,far,z3d,hc]
  ·have hl':¬ (a.length:Int) < b.length:=by omega
   rw [List.drop_eq_nil_of_le (by omega),zfs] at hc
   refine zaa fun K hK=>?_
   simp only [evW,evX,evM,evN,t0,t1,zad,hl',simprocAttr]
   refine hK _ _ ?_; clear hK K
   refine zaf false rfl (fun h=>by cases h) (fun _=>zay ?_)
   refine zac (zaa fun K hK=>?_)
   simp only [evW,evX,evM,evN]
   refine hK _ _ ?_; clear hK K
   refine zap ⟨.inr rfl, ?_⟩
   simp only [evR,evX,evC,evN,↓reduceIte,far,z3d,hc]
 ·refine ⟨.inr rfl, ?_⟩
  simp only [evR,evC,evN,far,z3d,t6]
theorem Zbl (a b:GVal):orI [c3 (decide (a.kind < b.kind)) (decide (b.kind < a.kind)),c3 (decide (a.i < b.i)) (decide (b.i < a.i)),c3 (bytesLess a.s b.s) (!(bytesLess a.s b.s || a.s == b.s)),zfs a.l b.l]=zda a b:=by
 have hi:∀ x y:Int,c3 (decide (x < y)) (decide (y < x))=if x=y then 0 else sgn (decide (x < y)):=fun x y=>by
  unfold c3 sgn
  by_cases h:x < y
  ·simp [h,show ¬ x=y by omega]
  ·by_cases h2:y < x
   ·simp [h,h2,show ¬ x=y by omega]
   ·simp [show x=y by omega]
 have hs:∀ x y:List UInt8,c3 (bytesLess x y) (!(bytesLess x y || x == y))=if x=y then 0 else sgn (bytesLess x y):=fun x y=>by
  unfold c3 sgn
  rcases zig x y with h | h | h
  ·have:x ≠ y:=fun e=>by rw [e,zec] at h; cases h
   simp [h,this]
  ·subst h; simp [zec]
  ·have h2:=zmr h
   have:x ≠ y:=fun e=>by rw [e,zec] at h; cases h
   simp [h2,this]
 have sg:∀ p,sgn p ≠ 0:=fun p=>by cases p <;> simp [sgn]
 have nz:∀ z:Int,(if z=0 then 0 else z)=z:=fun z=>by split <;> omega
 rw [hi,hi,hs,zgi]
 simp only [orI]
 by_cases e1:a.kind=b.kind
 ·by_cases e2:a.i=b.i
  ·by_cases e3:a.s=b.s
   ·simp [e1,e2,e3,nz]
   ·simp [e1,e2,e3,sg]
  ·simp [e1,e2,sg]
 ·simp [e1,sg]
theorem Zbm (h114:E 114=some (.code Zfh))(h126:E 126=some (.code z59))(h130:E 130=some (.code z3d))(c127:∀ x y:Int,lcall E 127 [.d (.i .i64 x),.d (.i .i64 y)] []=some (.d (.i .i64 (c3 (decide (x < y)) (decide (y < x)))),[]))
  (z3c:∀ x y:Int,lcall E 128 [.d (.i .i64 x),.d (.i .i64 y)] []=some (.d (.i .i64 (c3 (decide (x < y)) (decide (y < x)))),[])) (zw5:∀ x y:List UInt8,lcall E 129 [.d (.s x),.d (.s y)] []=some (.d (.i .i64 (c3 (bytesLess x y) (!(bytesLess x y || x == y)))),[])) :
  ∀ (a b:GVal),Small a→Small b→lcall E 114 [a.arg,b.arg] []=some (.d (.i .i64 (zda a b)),[]):=by
 intro a b ha
 induction ha generalizing b with
 | @mk a hal hsub ih =>
 intro hb
 have hcf:=Zis h130 hal hb.len (fun x hx y hy=>ih x hx y (hb.sub y hy))
 have hor:=Zir h126 [c3 (decide (a.kind < b.kind)) (decide (b.kind < a.kind)),c3 (decide (a.i < b.i)) (decide (b.i < a.i)),c3 (bytesLess a.s b.s) (!(bytesLess a.s b.s || a.s == b.s)),zfs a.l b.l] (by simp)
 rw [Zbl] at hor
 simp only [zi1,Qb,Qc] at hor
 refine zbc h114 ?_
 refine zac (zaa fun K hK=>?_)
 simp only [evW,evX,evM,evN,simprocAttr]
 refine hK _ _ ?_; clear hK K
 refine zac (zaz fun K hK=>?_)
 simp only [evW,evX,evM,evN,evC,far,c127,z3c,zw5,hcf,hor,simprocAttr]
 refine hK _ _ (by rfl) ?_; clear hK K
 refine zap ⟨.inr rfl, ?_⟩
 simp only [evR,evX,evC,evN,↓reduceIte,far,Zfh]
open Go
theorem zym (h139:E 139=some (.code z10))(v:GVal):lcall E 139 [v.arg] []=some (.d (.b (zc0 v.kind v.i)),[]):=by
 refine zbc h139 ?_
 refine zac (zaa fun K hK=>?_)
 simp only [evW,evX,evM,evN,↓reduceIte]
 refine hK _ _ ?_; clear hK K
 refine zac (zac ?_)
 refine zaa fun K hK=>?_
 simp only [evW,evX,evM,evN,simprocAttr]
 refine hK _ _ ?_; clear hK K
 refine za2 ?_
 by_cases h1:v.kind=1
 ·refine zac (zaa fun K hK=>?_)
  simp only [evW,evX,evM,evN,↓reduceIte,eq_true h1]
  refine hK _ _ ?_; clear hK K
  refine zaf true rfl (fun _=>?_) (fun h=>by cases h)
  refine zac (zaa fun K hK=>?_)
  simp only [evW,evX,evM,evN]
  refine hK _ _ ?_; clear hK K
  refine zap ⟨.inr rfl, ?_⟩
  simp only [evR,evX,evC,evN,↓reduceIte,far,z10,zc0,eq_true h1]
 ·refine zac (zaa fun K hK=>?_)
  simp only [evW,evX,evM,evN,↓reduceIte,h1]
  refine hK _ _ ?_; clear hK K
  refine zaf false rfl (fun h=>by cases h) (fun _=>?_)
  by_cases h2:v.kind=2
  ·refine zac (zaa fun K hK=>?_)
   simp only [evW,evX,evM,evN,eq_true h2,simprocAttr]
   refine hK _ _ ?_; clear hK K
   refine zaf true rfl (fun _=>?_) (fun h=>by cases h)
   by_cases h3:v.i=0
   ·refine zac (zaa fun K hK=>?_)
    simp only [evW,evX,evM,evN,eq_true h3,simprocAttr]
    refine hK _ _ ?_; clear hK K
    refine zap ⟨.inr rfl, ?_⟩
    simp only [evR,evX,evC,evN,↓reduceIte,far,z10,zc0,h1,eq_true h2]
    simp [h3]
   ·refine zac (zaa fun K hK=>?_)
    simp only [evW,evX,evM,evN,h3,simprocAttr]
    refine hK _ _ ?_; clear hK K
    refine zap ⟨.inr rfl, ?_⟩
    simp only [evR,evX,evC,evN,↓reduceIte,far,z10,zc0,h1,eq_true h2]
    simp [h3]
  ·refine zac (zaa fun K hK=>?_)
   simp only [evW,evX,evM,evN,h2,simprocAttr]
   refine hK _ _ ?_; clear hK K
   refine zaf false rfl (fun h=>by cases h) (fun _=>?_)
   by_cases h7:v.kind=7
   ·refine zac (zaa fun K hK=>?_)
    simp only [evW,evX,evM,evN,eq_true h7,simprocAttr]
    refine hK _ _ ?_; clear hK K
    refine zaf true rfl (fun _=>?_) (fun h=>by cases h)
    by_cases h3:1 ≤ v.i
    ·refine zac (zaa fun K hK=>?_)
     simp only [evW,evX,evM,evN,eq_true h3,simprocAttr]
     refine hK _ _ ?_; clear hK K
     refine zap ⟨.inr rfl, ?_⟩
     simp only [evR,evX,evC,evN,↓reduceIte,far,z10,zc0,h1,h2,eq_true h7]
     simp [h3]
    ·refine zac (zaa fun K hK=>?_)
     simp only [evW,evX,evM,evN,h3,simprocAttr]
     refine hK _ _ ?_; clear hK K
     refine zap ⟨.inr rfl, ?_⟩
     simp only [evR,evX,evC,evN,↓reduceIte,far,z10,zc0,h1,h2,eq_true h7]
     simp [h3]
   ·refine zac (zaa fun K hK=>?_)
    simp only [evW,evX,evM,evN,h7,simprocAttr]
    refine hK _ _ ?_; clear hK K
    refine zaf false rfl (fun h=>by cases h) (fun _=>zay ?_)
    refine zac (zaa fun K hK=>?_)
    simp only [evW,evX,evM,evN,simprocAttr]
    refine hK _ _ ?_; clear hK K
    refine zap ⟨.inr rfl, ?_⟩
    simp only [evR,evX,evC,evN,↓reduceIte,far,z10,zc0,h1,h2,h7]
theorem z63 (h153:E 153=some (.code z6a))(v:GVal):lcall E 153 [v.arg] []=some (.d (.b (zcz v)),[]):=by
 refine zbc h153 ?_
 refine zac (zaa fun K hK=>?_)
 simp only [evW,evX,evM,evN,↓reduceIte]
 refine hK _ _ ?_; clear hK K
 by_cases h4:v.kind=4
 ·by_cases hl:v.l.length=2
  ·obtain ⟨x,y,hxy⟩:∃ x y,v.l=[x,y]:=by
    match h:v.l,hl with
    | [x,y],_=>exact ⟨x,y,rfl⟩
   refine zac (zaa fun K hK=>?_)
   simp only [evW,evX,evM,evN,eq_true h4,hxy,zab,Int.toNat_zero,zas,Int.cast_ofNat_Int,Std.le_refl,simprocAttr]
   refine hK _ _ ?_; clear hK K
   refine zap ⟨.inr rfl, ?_⟩
   simp only [evR,evX,evC,evN,↓reduceIte,far,z6a]
   simp [zcz,h4,hxy]
  ·have hl':¬ ((v.l.length:Int)=2):=by omega
   refine zac (zaa fun K hK=>?_)
   simp only [evW,evX,evM,evN,eq_true h4,zad,hl',simprocAttr]
   refine hK _ _ ?_; clear hK K
   refine zap ⟨.inr rfl, ?_⟩
   simp only [evR,evX,evC,evN,↓reduceIte,far,z6a]
   have:zcz v=false:=by
    unfold zcz
    match h:v.l with
    | [x,y]=>rw [h] at hl; simp at hl
    | []=>simp
    | [_]=>simp
    | _ :: _ :: _ :: _=>simp
   rw [this]
 ·refine zac (zaa fun K hK=>?_)
  simp only [evW,evX,evM,evN,h4,simprocAttr]
  refine hK _ _ ?_; clear hK K
  refine zap ⟨.inr rfl, ?_⟩
  simp only [evR,evX,evC,evN,↓reduceIte,far,z6a]
  simp [zcz,h4]
theorem zww (h152:E 152=some (.code Zfl))(h153:E 153=some (.code z6a))(v:GVal):lcall E 152 [v.arg] []=some (.d (.b (!zcz v)),[]):=by
 have:=z63 h153 v
 refine zbc h152 ?_
 refine zac (zaa fun K hK=>?_)
 simp only [evW,evX,evM,evN,↓reduceIte]
 refine hK _ _ ?_; clear hK K
 refine zac (zaa fun K hK=>?_)
 simp only [evW,evX,evM,evN,evC,far,this,simprocAttr]
 refine hK _ _ ?_; clear hK K
 refine zap ⟨.inr rfl, ?_⟩
 simp only [evR,evX,evC,evN,↓reduceIte,far,Zfl]
theorem zyn (h154:E 154=some (.code Zfm))(h137:∀ v:GVal,lcall E 137 [v.arg] []=some (.d (.s (zfm v)),[]))(zw5:∀ x y:List UInt8,lcall E 129 [.d (.s x),.d (.s y)] []=some (.d (.i .i64 (c3 (bytesLess x y) (!(bytesLess x y || x == y)))),[]))(a b:GVal) :
  lcall E 154 [a.arg,b.arg] []=some (.d (.i .i64 (c3 (bytesLess (zfm a) (zfm b)) (!(bytesLess (zfm a) (zfm b) || zfm a == zfm b)))),[]):=by
 have ka:=h137 a
 have kb:=h137 b
 refine zbc h154 ?_
 refine zac (zaa fun K hK=>?_)
 simp only [evW,evX,evM,evN,simprocAttr]
 refine hK _ _ ?_; clear hK K
 refine zac (zaz fun K hK=>?_)
 simp only [evW,evX,evM,evN,evC,far,ka,kb,zw5,simprocAttr]
 refine hK _ _ (by rfl) ?_; clear hK K
 refine zap ⟨.inr rfl, ?_⟩
 simp only [evR,evX,evC,evN,↓reduceIte,far,Zfm]
def idxLoop:CCode:=match z6b.body with
 | .seq _ (.seq (.seq _ (.block _ (.loop _ c))) _)=>c
 | _=>.skip
theorem idx_loop {f:Nat}{l:List GVal}(hl:l.length ≤ 1000){p:GVal→Bool}(ih:∀ x ∈ l,lcall E f [x.arg] []=some (.d (.b (p x)),[])){Q:Ex→St→Prop}(hx:∀ tm,l.any p=false→Q (.exit 0) ⟨tm,[]⟩)(hr:∀ tm hp (i:Nat),l.any p=true→zba tm 4 = .d (.i .i64 i)→Q .ret ⟨tm,hp⟩) :
  ∀ (n i:Nat),i + n=l.length→l.any p=(l.drop i).any p→LX E idxLoop ⟨[0,1,7,8],[],[],[],[],true⟩ 0 ⟨[(0,.d (.l 4 (zab l))),(1,.d (.f f [] [])),(7,.d (.i .i64 l.length)),(8,.d (.i .i64 i))],[]⟩ Q:=by
 intro n
 induction n with
 | zero =>
  intro i hi ho
  have hn:¬ ((i:Int) < l.length):=by omega
  rw [List.drop_eq_nil_of_le (by omega),List.any_nil] at ho
  refine zan ?_
  refine zac (zaa fun K hK=>?_)
  simp only [evW,evX,evM,evN,hn,simprocAttr]
  refine hK _ _ ?_; clear hK K
  refine zac (zaf false rfl (fun h=>by cases h) (fun _=>zb9 ?_))
  exact hx _ ho
 | succ n ihn =>
  intro i hi ho
  have hy:(i:Int) < l.length:=by omega
  have la:i < l.length:=by omega
  have h0:(0:Int) ≤ i:=by omega
  have ga:(zab l)[i]?=some (GVal.row l[i]):=by rw [zaw,Qd la]; rfl
  have hcall:=ih l[i] (List.getElem_mem la)
  rw [zbl la,List.any_cons] at ho
  generalize l[i]=x at *
  have w:IntKind.i64.wrap ((i:Int) + 1)=((i + 1:Nat):Int):=by rw [i64_in (by omega) (by omega)]; omega
  refine zan ?_
  refine zac (zaa fun K hK=>?_)
  simp only [evW,evX,evM,evN,hy,simprocAttr]
  refine hK _ _ ?_; clear hK K
  refine zac (zaf true rfl (fun _=>zay ?_) (fun h=>by cases h))
  refine zac (za2 ?_)
  refine zac (zaa fun K hK=>?_)
  simp only [evW,evX,evM,evN,simprocAttr]
  refine hK _ _ ?_; clear hK K
  cases hp:p x with
  | true =>
   rw [hp,Bool.true_or] at ho
   refine zac (zaa fun K hK=>?_)
   simp only [evW,evX,evM,evN,evC,far,h0,Qk,ga,zas,hcall,hp,simprocAttr]
   refine hK _ _ ?_; clear hK K
   refine zaf true rfl (fun _=>?_) (fun h=>by cases h)
   refine zac (zaa fun K hK=>?_)
   simp only [evW,evX,evM,evN,simprocAttr]
   refine hK _ _ ?_; clear hK K
   exact zap (hr _ _ i ho rfl)
  | false =>
   rw [hp,Bool.false_or] at ho
   refine zac (zaa fun K hK=>?_)
   simp only [evW,evX,evM,evN,evC,far,h0,Qk,ga,zas,hcall,hp,simprocAttr]
   refine hK _ _ ?_; clear hK K
   refine zaf false rfl (fun h=>by cases h) (fun _=>zay ?_)
   refine zaa fun K hK=>?_
   simp only [evW,evX,evM,evN,w,simprocAttr]
   refine hK _ _ ?_; clear hK K
   refine ⟨_, ?_,ihn (i + 1) (by omega) ho⟩
   simp only [evH,evX,evN,simprocAttr]
theorem idx_ok (h155:E 155=some (.code z6b)){f:Nat}{l:List GVal}(hl:l.length ≤ 1000){p:GVal→Bool}(ih:∀ x ∈ l,lcall E f [x.arg] []=some (.d (.b (p x)),[])) :
  ∃ i:Int,lcall E 155 [.d (.l 4 (zab l)),.d (.f f [] [])] []=some (.d (.i .i64 i),[])∧decide (0 ≤ i)=l.any p:=by
 have:∃ r,lcall E 155 [.d (.l 4 (zab l)),.d (.f f [] [])] []=some r∧∃ i:Int,r=(.d (.i .i64 i),[])∧decide (0 ≤ i)=l.any p:=by
  refine zkd h155 ?_
  refine zac (zaa fun K hK=>?_)
  simp only [evW,evX,evM,evN,Nat.reduceAdd]
  refine hK _ _ ?_; clear hK K
  refine zac (zac ?_)
  refine zaa fun K hK=>?_
  simp only [evW,evX,evM,evN,zad,simprocAttr]
  refine hK _ _ ?_; clear hK K
  refine za2 (zcy ?_)
  simp only [evH,evX,evN,simprocAttr]
  refine idx_loop hl ih (fun tm ha=>?_) (fun tm hp i ha t4=>?_) l.length 0 (by omega) rfl
  ·refine zac (zaa fun K hK=>?_)
   simp only [evW,evX,evM,evN,Int.reduceNeg]
   refine hK _ _ ?_; clear hK K
   refine zap ⟨.inr rfl,_, ?_, -1,rfl,by rw [ha]; rfl⟩
   simp only [evR,evX,evC,evN,↓reduceIte,far,z6b]
  ·refine ⟨.inr rfl,_, ?_,i,rfl,by rw [ha]; simp⟩
   simp only [evR,evC,evN,far,z6b,t4]
 obtain ⟨r,h1,i,rfl,h2⟩:=this
 exact ⟨i,h1,h2⟩
theorem ztw (h141:E 141=some (.code Zfk))(h155:E 155=some (.code z6b)){f:Nat}{l:List GVal}(hl:l.length ≤ 1000){p:GVal→Bool}(ih:∀ x ∈ l,lcall E f [x.arg] []=some (.d (.b (p x)),[])) :
  lcall E 141 [.d (.l 4 (zab l)),.d (.f f [] [])] []=some (.d (.b (l.any p)),[]):=by
 obtain ⟨i,hc,hi⟩:=idx_ok h155 hl ih
 refine zbc h141 ?_
 refine zac (zaa fun K hK=>?_)
 simp only [evW,evX,evM,evN,Nat.reduceAdd]
 refine hK _ _ ?_; clear hK K
 refine zac (zaa fun K hK=>?_)
 simp only [evW,evX,evM,evN,evC,far,hc,simprocAttr]
 refine hK _ _ ?_; clear hK K
 refine zap ⟨.inr rfl, ?_⟩
 simp only [evR,evX,evC,evN,↓reduceIte,far,Zfk,hi]
def z64:CCode:=match z8c.body with
 | .seq _ (.seq (.seq _ (.block _ (.loop _ c))) _)=>c
 | _=>.skip
theorem zkz {p:GVal→GVal→Bool}{l:List GVal}{i:Nat}(h:i + 1 < l.length):zbe p (l.drop i)=(p l[i] l[i + 1] && zbe p (l.drop (i + 1))):=by
 rw [zbl (show i < l.length by omega),zbl h,zbe]
theorem z11 {f:Nat}{l:List GVal}(hl:l.length ≤ 1000){c:GVal→GVal→Int}(ih:∀ x ∈ l,∀ y ∈ l,lcall E f [x.arg,y.arg] []=some (.d (.i .i64 (c x y)),[])){Q:Ex→St→Prop}(hx:∀ tm,zbe (fun a b=>decide (c a b < 0)) l=true→Q (.exit 0) ⟨tm,[]⟩)(hr:∀ tm hp,zbe (fun a b=>decide (c a b < 0)) l=false→zba tm 4 = .d (.b false)→Q .ret ⟨tm,hp⟩) :
  ∀ (n i:Nat),i + n=l.length→(∀ j,j + 1=i→zbe (fun a b=>decide (c a b < 0)) l=zbe (fun a b=>decide (c a b < 0)) (l.drop j))→LX E z64 ⟨[0,1,7,8],[],[],[],[],true⟩ 0 ⟨[(0,.d (.l 4 (zab l))),(1,.d (.f f [] [])),(7,.d (.i .i64 l.length)),(8,.d (.i .i64 i))],[]⟩ Q:=by
 intro n
 induction n with
 | zero =>
  intro i hi ho
  have hn:¬ ((i:Int) < l.length):=by omega
  refine zan ?_
  refine zac (zaa fun K hK=>?_)
  simp only [evW,evX,evM,evN,↓reduceIte,Nat.reduceEqDiff,reduceCtorEq,hn]
  refine hK _ _ ?_; clear hK K
  refine zac (zaf false rfl (fun h=>by cases h) (fun _=>zb9 ?_))
  refine hx _ ?_
  cases i with
  | zero=>rw [List.length_eq_zero_iff.1 (by omega:l.length=0)]; rfl
  | succ j =>
   have hj:j < l.length:=by omega
   rw [ho j rfl,zbl hj,List.drop_eq_nil_of_le (by omega)]; rfl
 | succ n ihn =>
  intro i hi ho
  have hy:(i:Int) < l.length:=by omega
  have la:i < l.length:=by omega
  have h0:(0:Int) ≤ i:=by omega
  have w:IntKind.i64.wrap ((i:Int) + 1)=((i + 1:Nat):Int):=by rw [i64_in (by omega) (by omega)]; omega
  refine zan ?_
  refine zac (zaa fun K hK=>?_)
  simp only [evW,evX,evM,evN,↓reduceIte,Nat.reduceEqDiff,reduceCtorEq,hy]
  refine hK _ _ ?_; clear hK K
  refine zac (zaf true rfl (fun _=>zay ?_) (fun h=>by cases h))
  refine zac (za2 ?_)
  refine zac (zaa fun K hK=>?_)
  simp only [evW,evX,evM,evN,↓reduceIte,Nat.reduceEqDiff,reduceCtorEq]
  refine hK _ _ ?_; clear hK K
  cases i with
  | zero =>
   have hz:¬ ((0:Int) < ((0:Nat):Int)):=by omega
   refine zac (zaz fun K hK=>?_)
   simp only [evW,evX,evM,evN,↓reduceIte,Nat.reduceEqDiff,hz]
   refine hK _ _ (by rfl) ?_; clear hK K
   refine zaf false rfl (fun h=>by cases h) (fun _=>zay ?_)
   refine zaa fun K hK=>?_
   simp only [evW,evX,evM,evN,↓reduceIte,Nat.reduceEqDiff,Nat.reduceAdd,reduceCtorEq,w]
   refine hK _ _ ?_; clear hK K
   refine ⟨_, ?_,ihn 1 (by omega) (fun j hj=>by obtain rfl:j=0:=(by omega); rfl)⟩
   simp only [evH,evX,evN,↓reduceIte,Nat.reduceEqDiff,reduceCtorEq]
  | succ j =>
   have hz:(0:Int) < ((j + 1:Nat):Int):=by omega
   have lj:j < l.length:=by omega
   have w1:IntKind.i64.wrap (((j + 1:Nat):Int) - 1)=(j:Int):=by rw [i64_in (by omega) (by omega)]; omega
   have hj0:(0:Int) ≤ j:=by omega
   have ga:(zab l)[j]?=some (GVal.row l[j]):=by rw [zaw,Qd lj]; rfl
   have gb:(zab l)[j + 1]?=some (GVal.row l[j + 1]):=by rw [zaw,Qd la]; rfl
   have hcall:=ih l[j] (List.getElem_mem lj) l[j + 1] (List.getElem_mem la)
   have hst:=(ho j rfl).trans (zkz la)
   generalize l[j]=x at *
   generalize l[j + 1]=y at *
   by_cases hxy:0 ≤ c x y
   ·refine zac (zaz fun K hK=>?_)
    simp only [evW,evX,evM,evN,evC,far,↓reduceIte,Nat.reduceEqDiff,Nat.reduceAdd,Nat.reduceLeDiff,reduceCtorEq,hz,w1,hj0,h0,Qk,ga,gb,zas,hcall,eq_true hxy]
    refine hK _ _ (by rfl) ?_; clear hK K
    refine zaf true rfl (fun _=>?_) (fun h=>by cases h)
    refine zac (zaa fun K hK=>?_)
    simp only [evW,evX,evM,evN,Nat.reduceAdd]
    refine hK _ _ ?_; clear hK K
    refine zap (hr _ _ ?_ rfl)
    rw [hst,show decide (c x y < 0)=false from decide_eq_false (by omega)]; rfl
   ·refine zac (zaz fun K hK=>?_)
    simp only [evW,evX,evM,evN,evC,far,↓reduceIte,Nat.reduceEqDiff,Nat.reduceAdd,Nat.reduceLeDiff,reduceCtorEq,hz,w1,hj0,h0,Qk,ga,gb,zas,hcall,hxy]
    refine hK _ _ (by rfl) ?_; clear hK K
    refine zaf false rfl (fun h=>by cases h) (fun _=>zay ?_)
    refine zaa fun K hK=>?_
    simp only [evW,evX,evM,evN,↓reduceIte,Nat.reduceEqDiff,Nat.reduceAdd,reduceCtorEq,w]
    refine hK _ _ ?_; clear hK K
    refine ⟨_, ?_,ihn (j + 1 + 1) (by omega) (fun q hq=>?_)⟩
    ·simp only [evH,evX,evN,↓reduceIte,Nat.reduceEqDiff,reduceCtorEq]
    ·obtain rfl:q=j + 1:=by omega
     rw [hst,show decide (c x y < 0)=true from Ql (by omega)]; rfl
theorem z12 (h151:E 151=some (.code z8c)){f:Nat}{l:List GVal}(hl:l.length ≤ 1000){c:GVal→GVal→Int}(ih:∀ x ∈ l,∀ y ∈ l,lcall E f [x.arg,y.arg] []=some (.d (.i .i64 (c x y)),[])) :
  lcall E 151 [.d (.l 4 (zab l)),.d (.f f [] [])] []=some (.d (.b (zbe (fun a b=>decide (c a b < 0)) l)),[]):=by
 refine zbc h151 ?_
 refine zac (zaa fun K hK=>?_)
 simp only [evW,evX,evM,evN,Nat.reduceAdd]
 refine hK _ _ ?_; clear hK K
 refine zac (zac ?_)
 refine zaa fun K hK=>?_
 simp only [evW,evX,evM,evN,zad,simprocAttr]
 refine hK _ _ ?_; clear hK K
 refine za2 (zcy ?_)
 simp only [evH,evX,evN,simprocAttr]
 refine z11 hl ih (fun tm ha=>?_) (fun tm hp ha t4=>?_) l.length 0 (by omega) (fun j hj=>by omega)
 ·refine zac (zaa fun K hK=>?_)
  simp only [evW,evX,evM,evN]
  refine hK _ _ ?_; clear hK K
  refine zap ⟨.inr rfl, ?_⟩
  simp only [evR,evX,evC,evN,↓reduceIte,far,z8c,ha]
 ·refine ⟨.inr rfl, ?_⟩
  simp only [evR,evC,evN,far,z8c,t4,ha]
theorem z5z (x y:List UInt8):decide (c3 (bytesLess x y) (!(bytesLess x y || x == y)) < 0)=bytesLess x y:=by
 unfold c3
 cases h:bytesLess x y with
 | true=>simp
 | false=>simp; split <;> simp
theorem Zbn (h140:E 140=some (.code z3f))(h141:∀ (f:Nat) (l:List GVal) (p:GVal→Bool),l.length ≤ 1000→(∀ x ∈ l,lcall E f [x.arg] []=some (.d (.b (p x)),[]))→lcall E 141 [.d (.l 4 (zab l)),.d (.f f [] [])] []=some (.d (.b (l.any p)),[]))
  (h151:∀ (f:Nat) (l:List GVal) (c:GVal→GVal→Int),l.length ≤ 1000→(∀ x ∈ l,∀ y ∈ l,lcall E f [x.arg,y.arg] []=some (.d (.i .i64 (c x y)),[]))→lcall E 151 [.d (.l 4 (zab l)),.d (.f f [] [])] []=some (.d (.b (zbe (fun a b=>decide (c a b < 0)) l)),[]))
  (h114:∀ (a b:GVal),Small a→Small b→lcall E 114 [a.arg,b.arg] []=some (.d (.i .i64 (zda a b)),[])) (h152:∀ v:GVal,lcall E 152 [v.arg] []=some (.d (.b (!zcz v)),[]))
  (h154:∀ a b:GVal,lcall E 154 [a.arg,b.arg] []=some (.d (.i .i64 (c3 (bytesLess (zfm a) (zfm b)) (!(bytesLess (zfm a) (zfm b) || zfm a == zfm b)))),[])) (v:GVal) (hv:Small v) :
  lcall E 140 [v.arg] []=some (.d (.b (zbv v.kind v.l)),[]):=by
 have r1:=h151 114 v.l zda hv.len (fun x hx y hy=>h114 x y (hv.sub x hx) (hv.sub y hy))
 have r2:=h151 154 v.l _ hv.len (fun x hx y hy=>h154 x y)
 have a1:=h141 152 v.l _ hv.len (fun x hx=>h152 x)
 simp only [z5z] at r2
 have hany:(v.l.any fun x=>!zcz x) = !v.l.all zcz:=by
  generalize v.l=l
  induction l with
  | nil=>rfl
  | cons x r ih=>simp [ih]
 rw [hany] at a1
 refine zbc h140 ?_
 refine zac (zaa fun K hK=>?_)
 simp only [evW,evX,evM,evN,↓reduceIte]
 refine hK _ _ ?_; clear hK K
 refine zac (zac ?_)
 refine zaa fun K hK=>?_
 simp only [evW,evX,evM,evN,simprocAttr]
 refine hK _ _ ?_; clear hK K
 refine za2 ?_
 by_cases h4:v.kind=4
 ·refine zac (zaa fun K hK=>?_)
  simp only [evW,evX,evM,evN,↓reduceIte,eq_true h4]
  refine hK _ _ ?_; clear hK K
  refine zaf true rfl (fun _=>?_) (fun h=>by cases h)
  refine zac (zaa fun K hK=>?_)
  simp only [evW,evX,evM,evN]
  refine hK _ _ ?_; clear hK K
  refine zap ⟨.inr rfl, ?_⟩
  simp only [evR,evX,evC,evN,↓reduceIte,far,z3f,zbv,eq_true h4]
 ·refine zac (zaa fun K hK=>?_)
  simp only [evW,evX,evM,evN,↓reduceIte,h4]
  refine hK _ _ ?_; clear hK K
  refine zaf false rfl (fun h=>by cases h) (fun _=>?_)
  by_cases h5:v.kind=5
  ·refine zac (zaa fun K hK=>?_)
   simp only [evW,evX,evM,evN,eq_true h5,simprocAttr]
   refine hK _ _ ?_; clear hK K
   refine zaf true rfl (fun _=>?_) (fun h=>by cases h)
   refine zac (zaa fun K hK=>?_)
   simp only [evW,evX,evM,evN,evC,far,r1,simprocAttr]
   refine hK _ _ ?_; clear hK K
   refine zap ⟨.inr rfl, ?_⟩
   simp only [evR,evX,evC,evN,↓reduceIte,far,z3f,zbv,h4,eq_true h5]
   rfl
  ·refine zac (zaa fun K hK=>?_)
   simp only [evW,evX,evM,evN,h5,simprocAttr]
   refine hK _ _ ?_; clear hK K
   refine zaf false rfl (fun h=>by cases h) (fun _=>?_)
   by_cases h6:v.kind=6
   ·refine zac (zaa fun K hK=>?_)
    simp only [evW,evX,evM,evN,eq_true h6,simprocAttr]
    refine hK _ _ ?_; clear hK K
    refine zaf true rfl (fun _=>?_) (fun h=>by cases h)
    cases hp:v.l.all zcz with
    | true =>
     refine zac (zaa fun K hK=>?_)
     simp only [evW,evX,evM,evN,evC,far,a1,hp,r2,simprocAttr]
     refine hK _ _ ?_; clear hK K
     refine zap ⟨.inr rfl, ?_⟩
     simp only [evR,evX,evC,evN,↓reduceIte,far,z3f,zbv,h4,h5,eq_true h6,hp]
     rfl
    | false =>
     refine zac (zaa fun K hK=>?_)
     simp only [evW,evX,evM,evN,evC,far,a1,hp,simprocAttr]
     refine hK _ _ ?_; clear hK K
     refine zap ⟨.inr rfl, ?_⟩
     simp only [evR,evX,evC,evN,↓reduceIte,far,z3f,zbv,h4,h5,eq_true h6,hp]
   ·refine zac (zaa fun K hK=>?_)
    simp only [evW,evX,evM,evN,h6,simprocAttr]
    refine hK _ _ ?_; clear hK K
    refine zaf false rfl (fun h=>by cases h) (fun _=>zay ?_)
    refine zac (zaa fun K hK=>?_)
    simp only [evW,evX,evM,evN,zad,simprocAttr]
    refine hK _ _ ?_; clear hK K
    refine zap ⟨.inr rfl, ?_⟩
    simp only [evR,evX,evC,evN,↓reduceIte,far,z3f,zbv,h4,h5,h6]
    congr 4
    cases v.l <;> simp
    omega
open Go
def z13 (x:GVal):Bool:=decide (x.kind=7) || !zeq x
theorem zp9 (l:List GVal):zxw l = !l.any z13:=by
 rw [zko]
 induction l with
 | nil=>rfl
 | cons x r ih=>simp only [List.all_cons,List.any_cons,ih,z13,Bool.not_or,Bool.not_not]
theorem z65 (h142:E 142=some (.code z8b))(x:GVal)(hx:lcall E 125 [x.arg] []=some (.d (.b (zeq x)),[])):lcall E 142 [x.arg] []=some (.d (.b (z13 x)),[]):=by
 refine zbc h142 ?_
 refine zac (zaa fun K hK=>?_)
 simp only [evW,evX,evM,evN,↓reduceIte]
 refine hK _ _ ?_; clear hK K
 by_cases h7:x.kind=7
 ·refine zac (zaa fun K hK=>?_)
  simp only [evW,evX,evM,evN,eq_true h7,simprocAttr]
  refine hK _ _ ?_; clear hK K
  refine zap ⟨.inr rfl, ?_⟩
  simp only [evR,evX,evC,evN,↓reduceIte,far,z8b,z13,eq_true h7]
 ·refine zac (zaa fun K hK=>?_)
  simp only [evW,evX,evM,evN,evC,far,h7,hx,simprocAttr]
  refine hK _ _ ?_; clear hK K
  refine zap ⟨.inr rfl, ?_⟩
  simp only [evR,evX,evC,evN,↓reduceIte,far,z8b,z13,h7]
theorem z14 (h125:E 125=some (.code z1z))(h142:E 142=some (.code z8b))(h141:∀ (f:Nat) (l:List GVal) (p:GVal→Bool),l.length ≤ 1000→(∀ x ∈ l,lcall E f [x.arg] []=some (.d (.b (p x)),[]))→lcall E 141 [.d (.l 4 (zab l)),.d (.f f [] [])] []=some (.d (.b (l.any p)),[]))
  (hnum:∀ v:GVal,lcall E 139 [v.arg] []=some (.d (.b (zc0 v.kind v.i)),[])) (hrow:∀ v:GVal,Small v→lcall E 140 [v.arg] []=some (.d (.b (zbv v.kind v.l)),[])) :
  ∀ (v:GVal),Small v→lcall E 125 [v.arg] []=some (.d (.b (zeq v)),[]):=by
 intro v hs
 induction hs with
 | @mk v hl hsub ih =>
 have hn:=hnum v
 have hr:=hrow v (.mk hl hsub)
 have hc:=h141 142 v.l z13 hl (fun x hx=>z65 h142 x (ih x hx))
 have out:∀ (Q:Ex→St→Prop) tm,zeq v=false→(∀ s,zdw 0 s z1z.rets=some (.d (.b (zeq v)),[])→Q .ret s)→WX E (match z1z.body with | .seq _ (.seq (.seq _ (.cond _ t _)) _)=>t | _=>.skip) ⟨tm,[zmd v]⟩ Q:=fun Q tm hm hQ=>by
  refine zac (zaa fun K hK=>?_)
  simp only [evW,evX,evM,evN]
  refine hK _ _ ?_; clear hK K
  refine zap (hQ _ ?_)
  simp only [evR,evX,evC,evN,↓reduceIte,far,z1z,hm]
 refine zbc h125 ?_
 refine zac (zaa fun K hK=>?_)
 simp only [evW,evX,evM,evN,↓reduceIte]
 refine hK _ _ ?_; clear hK K
 refine zac (zac ?_)
 by_cases h1:v.kind < 1
 ·refine zaa fun K hK=>?_
  simp only [evW,evX,evM,evN,h1,simprocAttr]
  refine hK _ _ ?_; clear hK K
  refine zaf true rfl (fun _=>?_) (fun h=>by cases h)
  exact out _ _ (by rw [zb0]; simp; omega) (fun s h=>⟨.inr rfl,h⟩)
 ·by_cases h7:7 < v.kind
  ·refine zaa fun K hK=>?_
   simp only [evW,evX,evM,evN,h1,h7,simprocAttr]
   refine hK _ _ ?_; clear hK K
   refine zaf true rfl (fun _=>?_) (fun h=>by cases h)
   exact out _ _ (by rw [zb0]; simp; omega) (fun s h=>⟨.inr rfl,h⟩)
  ·have hin:decide (1 ≤ v.kind∧v.kind ≤ 7)=true:=Ql (by omega)
   cases hno:zc0 v.kind v.i with
   | false =>
    refine zaa fun K hK=>?_
    simp only [evW,evX,evM,evN,evC,far,h1,h7,hn,hno,simprocAttr]
    refine hK _ _ ?_; clear hK K
    refine zaf true rfl (fun _=>?_) (fun h=>by cases h)
    exact out _ _ (by rw [zb0]; simp [hno]) (fun s h=>⟨.inr rfl,h⟩)
   | true =>
    have tail:∀ tm,(decide (v.kind=3) || v.s.isEmpty)=true→zbv v.kind v.l=true→zba tm 1 = .ptr 0 0→WX E (match z1z.body with | .seq _ (.seq _ t)=>t | _=>.skip) ⟨tm,[zmd v]⟩ (fun ex s=>(ex = .normal ∨ ex = .ret)∧zdw 0 s z1z.rets=some (.d (.b (zeq v)),[])):=fun tm h3 hro t1=>by
     refine zac (zaa fun K hK=>?_)
     simp only [evW,evX,evM,evN,evC,far,t1,hc,simprocAttr]
     refine hK _ _ ?_; clear hK K
     refine zap ⟨.inr rfl, ?_⟩
     simp only [evR,evX,evC,evN,↓reduceIte,far,z1z]
     rw [zb0,hin,hno,h3,hro,zp9]; simp
    by_cases h3:v.kind=3
    ·cases hro:zbv v.kind v.l with
     | false =>
      refine zaa fun K hK=>?_
      simp only [evW,evX,evM,evN,evC,far,not_true_eq_false,h1,h7,hn,hno,eq_true h3,hr,hro,simprocAttr]
      refine hK _ _ ?_; clear hK K
      refine zaf true rfl (fun _=>?_) (fun h=>by cases h)
      exact out _ _ (by rw [zb0]; simp [hro]) (fun s h=>⟨.inr rfl,h⟩)
     | true =>
      refine zaa fun K hK=>?_
      simp only [evW,evX,evM,evN,evC,far,not_true_eq_false,h1,h7,hn,hno,eq_true h3,hr,hro,simprocAttr]
      refine hK _ _ ?_; clear hK K
      refine zaf false rfl (fun h=>by cases h) (fun _=>zay ?_)
      exact tail _ (by simp [h3]) hro rfl
    ·by_cases hs:v.s=[]
     ·cases hro:zbv v.kind v.l with
      | false =>
       refine zaa fun K hK=>?_
       simp only [evW,evX,evM,evN,evC,far,not_true_eq_false,not_false_eq_true,h1,h7,hn,hno,h3,eq_true hs,hr,hro,simprocAttr]
       refine hK _ _ ?_; clear hK K
       refine zaf true rfl (fun _=>?_) (fun h=>by cases h)
       exact out _ _ (by rw [zb0]; simp [hro]) (fun s h=>⟨.inr rfl,h⟩)
      | true =>
       refine zaa fun K hK=>?_
       simp only [evW,evX,evM,evN,evC,far,not_true_eq_false,not_false_eq_true,h1,h7,hn,hno,h3,eq_true hs,hr,hro,simprocAttr]
       refine hK _ _ ?_; clear hK K
       refine zaf false rfl (fun h=>by cases h) (fun _=>zay ?_)
       exact tail _ (by simp [hs]) hro rfl
     ·refine zaa fun K hK=>?_
      simp only [evW,evX,evM,evN,evC,far,not_false_eq_true,h1,h7,hn,hno,h3,hs,simprocAttr]
      refine hK _ _ ?_; clear hK K
      refine zaf true rfl (fun _=>?_) (fun h=>by cases h)
      exact out _ _ (by rw [zb0]; have hse:v.s.isEmpty=false:=(by simpa using hs); simp [h3,hse]) (fun s h=>⟨.inr rfl,h⟩)
theorem Zbo (h111:E 111=some (.code Zax))(hsize:∀ v,Small v→lcall E 112 [v.arg] []=some (.d (.i .i64 (zfy v)),[]))(hmay:∀ v,Small v→lcall E 125 [v.arg] []=some (.d (.b (zeq v)),[]))(v:GVal)(hv:Small v) :
  lcall E 111 [v.arg] []=some (.d (.b (decide (zfy v ≤ 60) && zeq v)),[]):=by
 have h1:=hsize v hv
 have h2:=hmay v hv
 refine zbc h111 ?_
 refine zac (zaa fun K hK=>?_)
 simp only [evW,evX,evM,evN,↓reduceIte]
 refine hK _ _ ?_; clear hK K
 by_cases hs:zfy v ≤ 60
 ·refine zac (zaa fun K hK=>?_)
  simp only [evW,evX,evM,evN,evC,far,h1,eq_true hs,h2,simprocAttr]
  refine hK _ _ ?_; clear hK K
  refine zap ⟨.inr rfl, ?_⟩
  simp only [evR,evX,evC,evN,↓reduceIte,far,Zax]
  simp [hs]
 ·refine zac (zaa fun K hK=>?_)
  simp only [evW,evX,evM,evN,evC,far,h1,hs,simprocAttr]
  refine hK _ _ ?_; clear hK K
  refine zap ⟨.inr rfl, ?_⟩
  simp only [evR,evX,evC,evN,↓reduceIte,far,Zax]
  simp [hs]
open Go
def Fit (v:GVal):Prop:=szN v ≤ 1000000000000
def z50 (v:GVal):Bool:=decide (zfy v ≤ 60) && zeq v
def z1s (x:GVal):Bool:=!z50 x || decide (x.kind=7)
theorem zyo {v:GVal}(h:Fit v):∀ x ∈ v.l,Fit x:=fun x hx=>by have:=zur hx; unfold Fit at *; omega
theorem z15 {v:GVal}(hf:Fit v)(hs:zfy v ≤ 60):v.l.any z1s=v.l.any z13:=by
 have:∀ x ∈ v.l,z1s x=z13 x:=fun x hx=>by
  have h1:zfy x ≤ 60:=by
   have:=zur hx
   rw [zgu v hf] at hs
   rw [zgu x (zyo hf x hx)]
   omega
  simp only [z1s,z13,z50,h1,decide_true,Bool.true_and]
  exact Bool.or_comm _ _
 generalize v.l=l at this
 induction l with
 | nil=>rfl
 | cons x r ih=>simp only [List.any_cons,this x (by simp),ih fun y hy=>this y (by simp [hy])]
def z66:CCode:=match zk8.body with
 | .seq _ (.seq _ (.seq (.seq _ (.block _ (.loop _ c))) _))=>c
 | _=>.skip
theorem z16 {v:GVal}(hl:v.l.length ≤ 1000)(ih:∀ x ∈ v.l,lcall E 110 [x.arg] []=some (.d (.b (z50 x)),[])){Q:Ex→St→Prop}(hx:∀ tm,zba tm 1 = .ptr 0 0→v.l.any z1s=false→Q (.exit 0) ⟨tm,[zmd v]⟩)(hr:∀ tm hp,v.l.any z1s=true→zba tm 2 = .d (.b false)→Q .ret ⟨tm,hp⟩) :
  ∀ (n i:Nat),i + n=v.l.length→v.l.any z1s=(v.l.drop i).any z1s→LX E z66 ⟨[1,3],[],[],[],[],true⟩ 1 ⟨[(1,.ptr 0 0),(3,.d (.i .i64 i))],[zmd v]⟩ Q:=by
 intro n
 induction n with
 | zero =>
  intro i hi ho
  have hn:¬ ((i:Int) < v.l.length):=by omega
  rw [List.drop_eq_nil_of_le (by omega),List.any_nil] at ho
  refine zan (zac (zac ?_))
  refine zaa fun K hK=>?_
  simp only [evW,evX,evM,evN,zad,hn,simprocAttr]
  refine hK _ _ ?_; clear hK K
  refine zaf false rfl (fun h=>by cases h) (fun _=>zb9 ?_)
  exact hx _ rfl ho
 | succ n ihn =>
  intro i hi ho
  have hy:(i:Int) < v.l.length:=by omega
  have la:i < v.l.length:=by omega
  have h0:(0:Int) ≤ i:=by omega
  have ga:(zab v.l)[i]?=some (GVal.row v.l[i]):=by rw [zaw,Qd la]; rfl
  have hcall:=ih v.l[i] (List.getElem_mem la)
  rw [zbl la,List.any_cons] at ho
  generalize v.l[i]=x at *
  have w:IntKind.i64.wrap ((i:Int) + 1)=((i + 1:Nat):Int):=by rw [i64_in (by omega) (by omega)]; omega
  refine zan (zac (zac ?_))
  refine zaa fun K hK=>?_
  simp only [evW,evX,evM,evN,zad,hy,simprocAttr]
  refine hK _ _ ?_; clear hK K
  refine zaf true rfl (fun _=>zay ?_) (fun h=>by cases h)
  refine zac (za2 ?_)
  cases hm:z50 x with
  | false =>
   refine zac (zaa fun K hK=>?_)
   simp only [evW,evX,evM,evN,evC,far,h0,Qk,ga,zas,hcall,hm,simprocAttr]
   refine hK _ _ ?_; clear hK K
   refine zaf true rfl (fun _=>?_) (fun h=>by cases h)
   refine zac (zaa fun K hK=>?_)
   simp only [evW,evX,evM,evN]
   refine hK _ _ ?_; clear hK K
   exact zap (hr _ _ (by rw [ho,z1s,hm]; rfl) rfl)
  | true =>
   by_cases h7:x.kind=7
   ·refine zac (zaa fun K hK=>?_)
    simp only [evW,evX,evM,evN,evC,far,h0,Qk,ga,zas,hcall,hm,eq_true h7,simprocAttr]
    refine hK _ _ ?_; clear hK K
    refine zaf true rfl (fun _=>?_) (fun h=>by cases h)
    refine zac (zaa fun K hK=>?_)
    simp only [evW,evX,evM,evN]
    refine hK _ _ ?_; clear hK K
    exact zap (hr _ _ (by rw [ho,z1s,hm]; simp [h7]) rfl)
   ·refine zac (zaa fun K hK=>?_)
    simp only [evW,evX,evM,evN,evC,far,h0,Qk,ga,zas,hcall,hm,h7,simprocAttr]
    refine hK _ _ ?_; clear hK K
    refine zaf false rfl (fun h=>by cases h) (fun _=>zay ?_)
    refine zaa fun K hK=>?_
    simp only [evW,evX,evM,evN,w,simprocAttr]
    refine hK _ _ ?_; clear hK K
    refine ⟨_, ?_,ihn (i + 1) (by omega) (by rw [ho,z1s,hm]; simp [h7])⟩
    simp only [evH,evX,evN,simprocAttr]
def z67:CCode:=match zk8.body with
 | .seq _ (.seq _ (.seq _ (.seq _ (.seq _ (.seq (.seq _ (.block _ (.loop _ c))) _)))))=>c
 | _=>.skip
def zc3 (k:Int)(l:List GVal)(i:Nat):Bool :=
 if k=4 then true else if k=5 then zbe ltV (l.drop (i - 1)) else (l.drop i).all zcz && zbe ltK (l.drop (i - 1))
theorem ztx {k:Int}(hk:4 ≤ k)(hk':k ≤ 6)(l:List GVal):zc3 k l 0=zbv k l:=by
 unfold zc3 zbv
 by_cases h4:k=4
 ·simp [h4]
 ·by_cases h5:k=5
  ·simp [h5]
  ·have h6:k=6:=by omega
   simp [h6]
theorem zwx {k:Int}{l:List GVal}{i:Nat}(h:l.length ≤ i):zc3 k l i=true:=by
 have hc:∀ p,zbe p (l.drop (i - 1))=true:=fun p=>by
  rcases Qn (i - 1) l.length with hlt | hge
  ·rw [zbl hlt,List.drop_eq_nil_of_le (by omega)]; rfl
  ·rw [List.drop_eq_nil_of_le hge]; rfl
 unfold zc3
 split
 ·rfl
 ·split
  ·exact hc _
  ·rw [hc,List.drop_eq_nil_of_le h]; rfl
theorem zrt {l:List GVal}{j:Nat}(h:j + 1 < l.length):zc3 5 l (j + 1)=(ltV l[j] l[j + 1] && zc3 5 l (j + 1 + 1)):=by
 simp only [zc3,show ¬ ((5:Int)=4) by decide,if_true,if_false,Nat.add_sub_cancel]
 exact zkz h
theorem zqa {l:List GVal}:zc3 5 l 0=zc3 5 l 1:=by simp [zc3]
theorem zru {l:List GVal}{j:Nat}(h:j + 1 < l.length):zc3 6 l (j + 1)=(zcz l[j + 1] && (ltK l[j] l[j + 1] && zc3 6 l (j + 1 + 1))):=by
 simp only [zc3,show ¬ ((6:Int)=4) by decide,show ¬ ((6:Int)=5) by decide,if_false,Nat.add_sub_cancel]
 rw [zkz h,zbl h,List.all_cons]
 cases zcz l[j + 1] <;> cases ltK l[j] l[j + 1] <;> simp
theorem zqb {l:List GVal}(h:0 < l.length):zc3 6 l 0=(zcz l[0] && zc3 6 l 1):=by
 simp only [zc3,show ¬ ((6:Int)=4) by decide,show ¬ ((6:Int)=5) by decide,if_false,Nat.sub_self,Nat.zero_sub]
 rw [zbl h,List.all_cons,← zbl h]
 cases zcz l[0] <;> simp
set_option maxHeartbeats 1000000 in
theorem z17 {v:GVal}(hl:v.l.length ≤ 1000)(hk4:4 ≤ v.kind)(hk6:v.kind ≤ 6)(ih:∀ x ∈ v.l,∀ y ∈ v.l,lcall E 115 [x.arg,y.arg] []=some (.d (.i .i64 (zda x y)),[])){Q:Ex→St→Prop}(hx:∀ tm,zbv v.kind v.l=true→Q (.exit 3) ⟨tm,[zmd v]⟩)(hr:∀ tm hp,zbv v.kind v.l=false→zba tm 2 = .d (.b false)→Q .ret ⟨tm,hp⟩) :
  ∀ (n i:Nat),i + n=v.l.length→zbv v.kind v.l=zc3 v.kind v.l i→(v.kind=6→∀ j,j < i→∀ x,v.l[j]?=some x→zcz x=true)→LX E z67 ⟨[1,4],[],[],[],[],true⟩ 1 ⟨[(1,.ptr 0 0),(4,.d (.i .i64 i))],[zmd v]⟩ Q:=by
 intro n
 induction n with
 | zero =>
  intro i hi ho hp
  have hn:¬ ((i:Int) < v.l.length):=by omega
  rw [zwx (by omega)] at ho
  refine zan (zac (zac ?_))
  refine zaa fun K hK=>?_
  simp only [evW,evX,evM,evN,↓reduceIte,Nat.reduceEqDiff,zad,hn]
  refine hK _ _ ?_; clear hK K
  refine zaf false rfl (fun h=>by cases h) (fun _=>zb9 ?_)
  exact hx _ ho
 | succ n ihn =>
  intro i hi ho hp
  have hy:(i:Int) < v.l.length:=by omega
  have la:i < v.l.length:=by omega
  have h0:(0:Int) ≤ i:=by omega
  have ga:(zab v.l)[i]?=some (GVal.row v.l[i]):=by rw [zaw,Qd la]; rfl
  have w:IntKind.i64.wrap ((i:Int) + 1)=((i + 1:Nat):Int):=by rw [i64_in (by omega) (by omega)]; omega
  have next:(v.kind=6→zcz v.l[i]=true)→∀ (j:Nat),v.kind=6→j < i + 1→∀ x,v.l[j]?=some x→zcz x=true:=fun hpi j h6 hj x hx=>by
   rcases Qn j i with h | h
   ·exact hp h6 j h x hx
   ·obtain rfl:j=i:=by omega
    rw [Qd la] at hx
    cases hx; exact hpi h6
  refine zan (zac (zac ?_))
  refine zaa fun K hK=>?_
  simp only [evW,evX,evM,evN,↓reduceIte,Nat.reduceEqDiff,zad,hy]
  refine hK _ _ ?_; clear hK K
  refine zaf true rfl (fun _=>zay ?_) (fun h=>by cases h)
  refine zac (za2 ?_)
  refine zac (zaa fun K hK=>?_)
  simp only [evW,evX,evM,evN,↓reduceIte,Nat.reduceEqDiff,Nat.reduceAdd,Nat.reduceLeDiff,h0,Qk,ga,zas]
  refine hK _ _ ?_; clear hK K
  refine zac (zac ?_)
  by_cases h4:v.kind=4
  ·have h5:¬ v.kind=5:=by omega
   have h6:¬ v.kind=6:=by omega
   have hok:zc3 v.kind v.l i=zc3 v.kind v.l (i + 1):=by simp [zc3,h4]
   refine zaz fun K hK=>?_
   simp only [evW,evX,evM,evN,↓reduceIte,Nat.reduceEqDiff,Nat.reduceAdd,h5]
   refine hK _ _ (by rfl) ?_; clear hK K
   refine zaf false rfl (fun h=>by cases h) (fun _=>zay ?_)
   refine zac (zaz fun K hK=>?_)
   simp only [evW,evX,evM,evN,↓reduceIte,Nat.reduceEqDiff,Nat.reduceAdd,h6]
   refine hK _ _ (by rfl) ?_; clear hK K
   refine zaf false rfl (fun h=>by cases h) (fun _=>zay ?_)
   refine zaa fun K hK=>?_
   simp only [evW,evX,evM,evN,↓reduceIte,Nat.reduceEqDiff,Nat.reduceAdd,w]
   refine hK _ _ ?_; clear hK K
   refine ⟨_, ?_,ihn (i + 1) (by omega) (ho.trans hok) (fun h=>absurd h h6)⟩
   simp only [evH,evX,evN,↓reduceIte,Nat.reduceEqDiff,Nat.reduceLT]
  ·by_cases h5:v.kind=5
   ·have h6:¬ v.kind=6:=by omega
    cases i with
    | zero =>
     have hz:¬ ((0:Int) < ((0:Nat):Int)):=by omega
     refine zaz fun K hK=>?_
     simp only [evW,evX,evM,evN,↓reduceIte,Nat.reduceEqDiff,Nat.reduceAdd,eq_true h5,hz]
     refine hK _ _ (by rfl) ?_; clear hK K
     refine zaf false rfl (fun h=>by cases h) (fun _=>zay ?_)
     refine zac (zaz fun K hK=>?_)
     simp only [evW,evX,evM,evN,↓reduceIte,Nat.reduceEqDiff,Nat.reduceAdd,h6]
     refine hK _ _ (by rfl) ?_; clear hK K
     refine zaf false rfl (fun h=>by cases h) (fun _=>zay ?_)
     refine zaa fun K hK=>?_
     simp only [evW,evX,evM,evN,↓reduceIte,Nat.reduceEqDiff,Nat.reduceAdd,w]
     refine hK _ _ ?_; clear hK K
     refine ⟨_, ?_,ihn 1 (by omega) (by rw [ho,h5]; exact zqa) (fun h=>absurd h h6)⟩
     simp only [evH,evX,evN,↓reduceIte,Nat.reduceEqDiff,Nat.reduceLT]
    | succ j =>
     have hz:(0:Int) < ((j + 1:Nat):Int):=by omega
     have lj:j < v.l.length:=by omega
     have w1:IntKind.i64.wrap (((j + 1:Nat):Int) - 1)=(j:Int):=by rw [i64_in (by omega) (by omega)]; omega
     have hj0:(0:Int) ≤ j:=by omega
     have gj:(zab v.l)[j]?=some (GVal.row v.l[j]):=by rw [zaw,Qd lj]; rfl
     have hcall:=ih v.l[j] (List.getElem_mem lj) v.l[j + 1] (List.getElem_mem la)
     have hst:zbv v.kind v.l=(ltV v.l[j] v.l[j + 1] && zc3 v.kind v.l (j + 1 + 1)):=by rw [ho,h5]; exact zrt la
     clear next ga
     generalize v.l[j]=x at *
     generalize v.l[j + 1]=y at *
     by_cases hxy:0 ≤ zda x y
     ·refine zaz fun K hK=>?_
      simp only [evW,evX,evM,evN,evC,far,↓reduceIte,Nat.reduceEqDiff,Nat.reduceAdd,Nat.reduceLeDiff,eq_true h5,hz,w1,hj0,Qk,gj,zas,hcall,eq_true hxy]
      refine hK _ _ (by rfl) ?_; clear hK K
      refine zaf true rfl (fun _=>?_) (fun h=>by cases h)
      refine zac (zaa fun K hK=>?_)
      simp only [evW,evX,evM,evN,Nat.reduceAdd]
      refine hK _ _ ?_; clear hK K
      refine zap (hr _ _ ?_ rfl)
      rw [hst,ltV,show decide (zda x y < 0)=false from decide_eq_false (by omega)]; rfl
     ·refine zaz fun K hK=>?_
      simp only [evW,evX,evM,evN,evC,far,↓reduceIte,Nat.reduceEqDiff,Nat.reduceAdd,Nat.reduceLeDiff,eq_true h5,hz,w1,hj0,Qk,gj,zas,hcall,hxy]
      refine hK _ _ (by rfl) ?_; clear hK K
      refine zaf false rfl (fun h=>by cases h) (fun _=>zay ?_)
      refine zac (zaz fun K hK=>?_)
      simp only [evW,evX,evM,evN,↓reduceIte,Nat.reduceEqDiff,Nat.reduceAdd,h6]
      refine hK _ _ (by rfl) ?_; clear hK K
      refine zaf false rfl (fun h=>by cases h) (fun _=>zay ?_)
      refine zaa fun K hK=>?_
      simp only [evW,evX,evM,evN,↓reduceIte,Nat.reduceEqDiff,Nat.reduceAdd,w]
      refine hK _ _ ?_; clear hK K
      refine ⟨_, ?_,ihn (j + 1 + 1) (by omega) ?_ (fun h=>absurd h h6)⟩
      ·simp only [evH,evX,evN,↓reduceIte,Nat.reduceEqDiff,Nat.reduceLT]
      ·rw [hst,ltV,show decide (zda x y < 0)=true from Ql (by omega)]; rfl
   ·have h6:v.kind=6:=by omega
    refine zaz fun K hK=>?_
    simp only [evW,evX,evM,evN,↓reduceIte,Nat.reduceEqDiff,Nat.reduceAdd,h5]
    refine hK _ _ (by rfl) ?_; clear hK K
    refine zaf false rfl (fun h=>by cases h) (fun _=>zay ?_)
    have first:i=0→zbv v.kind v.l=(zcz v.l[i] && zc3 v.kind v.l (i + 1)):=fun hi0=>by
     subst hi0
     rw [ho,h6]; exact zqb la
    have later:∀ j,i=j + 1→∀ x,v.l[j]?=some x→zbv v.kind v.l=(zcz v.l[i] && (ltK x v.l[i] && zc3 v.kind v.l (i + 1))):=fun j hij x hx=>by
     subst hij
     have lj:j < v.l.length:=by omega
     rw [Qd lj] at hx
     cases hx
     rw [ho,h6]; exact zru la
    have nopair:zcz v.l[i]=false→zbv v.kind v.l=false:=fun hpf=>by
     cases i with
     | zero=>rw [first rfl,hpf]; rfl
     | succ j=>rw [later j rfl v.l[j] (Qd (by omega)),hpf]; rfl
    generalize v.l[i]=y at *
    by_cases k4:y.kind=4
    ·by_cases kl:y.l.length=2
     ·obtain ⟨a,b,hab⟩:∃ a b,y.l=[a,b]:=by
       match h:y.l,kl with
       | [a,b],_=>exact ⟨a,b,rfl⟩
      by_cases k3:a.kind=3
      ·have hpair:zcz y=true:=by simp [zcz,k4,hab,k3]
       cases i with
       | zero =>
        have hz:¬ ((0:Int) < ((0:Nat):Int)):=by omega
        refine zac (zaz fun K hK=>?_)
        simp only [evW,evX,evM,evN,↓reduceIte,Nat.reduceEqDiff,Nat.reduceAdd,not_true_eq_false,Int.reduceLT,eq_true h6,eq_true k4,hab,zab,Int.cast_ofNat_Int,Int.toNat_zero,Std.le_refl,zas,eq_true k3]
        refine hK _ _ (by rfl) ?_; clear hK K
        refine zaf false rfl (fun h=>by cases h) (fun _=>zay ?_)
        have w0:IntKind.i64.wrap ((0:Int) + 1)=((1:Nat):Int):=by rw [i64_in (by omega) (by omega)]; omega
        refine zaa fun K hK=>?_
        simp only [evW,evX,evM,evN,↓reduceIte,Nat.reduceEqDiff,Nat.reduceAdd,w0]
        refine hK _ _ ?_; clear hK K
        refine ⟨_, ?_,ihn 1 (by omega) (by rw [first rfl,hpair]; rfl) (fun h6 j hj x hx=>next (fun _=>hpair) j h6 hj x hx)⟩
        simp only [evH,evX,evN,↓reduceIte,Nat.reduceEqDiff,Nat.reduceLT]
       | succ j =>
        have hz:(0:Int) < ((j + 1:Nat):Int):=by omega
        have lj:j < v.l.length:=by omega
        have w1:IntKind.i64.wrap (((j + 1:Nat):Int) - 1)=(j:Int):=by rw [i64_in (by omega) (by omega)]; omega
        have hj0:(0:Int) ≤ j:=by omega
        have gj:(zab v.l)[j]?=some (GVal.row v.l[j]):=by rw [zaw,Qd lj]; rfl
        have hpx:=hp h6 j (by omega) v.l[j] (Qd lj)
        have hl8:=later j rfl v.l[j] (Qd lj)
        clear ga
        generalize v.l[j]=x at *
        obtain ⟨p,q,hpq⟩:∃ p q,x.l=[p,q]:=by
         have:=zkq hpx
         match h:x.l,this with
         | [p,q],_=>exact ⟨p,q,rfl⟩
        have hlt:ltK x y=bytesLess p.s a.s:=by simp [ltK,zfm,hpq,hab]
        cases hb:bytesLess p.s a.s with
        | true =>
         refine zac (zaz fun K hK=>?_)
         simp only [evW,evX,evM,evN,↓reduceIte,Nat.reduceEqDiff,Nat.reduceAdd,not_true_eq_false,eq_true h6,eq_true k4,hab,zab,Int.cast_ofNat_Int,Int.toNat_zero,Std.le_refl,zas,eq_true k3,hz,w1,hj0,Qk,gj,hpq,hb]
         refine hK _ _ (by rfl) ?_; clear hK K
         refine zaf false rfl (fun h=>by cases h) (fun _=>zay ?_)
         refine zaa fun K hK=>?_
         simp only [evW,evX,evM,evN,↓reduceIte,Nat.reduceEqDiff,Nat.reduceAdd,w]
         refine hK _ _ ?_; clear hK K
         refine ⟨_, ?_,ihn (j + 1 + 1) (by omega) (by rw [hl8,hpair,hlt,hb]; rfl) (fun h6 j hj x hx=>next (fun _=>hpair) j h6 hj x hx)⟩
         simp only [evH,evX,evN,↓reduceIte,Nat.reduceEqDiff,Nat.reduceLT]
        | false =>
         refine zac (zaz fun K hK=>?_)
         simp only [evW,evX,evM,evN,↓reduceIte,Nat.reduceEqDiff,Nat.reduceAdd,not_true_eq_false,eq_true h6,eq_true k4,hab,zab,Int.cast_ofNat_Int,Int.toNat_zero,Std.le_refl,zas,eq_true k3,hz,w1,hj0,Qk,gj,hpq,hb]
         refine hK _ _ (by rfl) ?_; clear hK K
         refine zaf true rfl (fun _=>?_) (fun h=>by cases h)
         refine zac (zaa fun K hK=>?_)
         simp only [evW,evX,evM,evN,Nat.reduceAdd]
         refine hK _ _ ?_; clear hK K
         exact zap (hr _ _ (by rw [hl8,hpair,hlt,hb]; rfl) rfl)
      ·refine zac (zaz fun K hK=>?_)
       simp only [evW,evX,evM,evN,↓reduceIte,Nat.reduceEqDiff,Nat.reduceAdd,not_true_eq_false,not_false_eq_true,eq_true h6,eq_true k4,hab,zab,Int.cast_ofNat_Int,Int.toNat_zero,Std.le_refl,zas,k3]
       refine hK _ _ (by rfl) ?_; clear hK K
       refine zaf true rfl (fun _=>?_) (fun h=>by cases h)
       refine zac (zaa fun K hK=>?_)
       simp only [evW,evX,evM,evN,Nat.reduceAdd]
       refine hK _ _ ?_; clear hK K
       exact zap (hr _ _ (nopair (by simp [zcz,k4,hab,k3])) rfl)
     ·have kl':¬ ((y.l.length:Int)=2):=by omega
      refine zac (zaz fun K hK=>?_)
      simp only [evW,evX,evM,evN,↓reduceIte,Nat.reduceEqDiff,Nat.reduceAdd,not_true_eq_false,not_false_eq_true,eq_true h6,eq_true k4,zad,kl']
      refine hK _ _ (by rfl) ?_; clear hK K
      refine zaf true rfl (fun _=>?_) (fun h=>by cases h)
      refine zac (zaa fun K hK=>?_)
      simp only [evW,evX,evM,evN,Nat.reduceAdd]
      refine hK _ _ ?_; clear hK K
      refine zap (hr _ _ (nopair ?_) rfl)
      cases hpv:zcz y with
      | false=>rfl
      | true=>exact absurd (zkq hpv) kl
    ·refine zac (zaz fun K hK=>?_)
     simp only [evW,evX,evM,evN,↓reduceIte,Nat.reduceEqDiff,Nat.reduceAdd,not_false_eq_true,eq_true h6,k4]
     refine hK _ _ (by rfl) ?_; clear hK K
     refine zaf true rfl (fun _=>?_) (fun h=>by cases h)
     refine zac (zaa fun K hK=>?_)
     simp only [evW,evX,evM,evN,Nat.reduceAdd]
     refine hK _ _ ?_; clear hK K
     exact zap (hr _ _ (nopair (by simp [zcz,k4])) rfl)
set_option maxHeartbeats 1000000 in
theorem zyp (h110:E 110=some (.code zk8))(hsize:∀ v,Small v→lcall E 113 [v.arg] []=some (.d (.i .i64 (zfy v)),[]))(hcmp:∀ (a b:GVal),Small a→Small b→lcall E 115 [a.arg,b.arg] []=some (.d (.i .i64 (zda a b)),[])) :
  ∀ (v:GVal),Small v→Fit v→lcall E 110 [v.arg] []=some (.d (.b (z50 v)),[]):=by
 intro v hs
 induction hs with
 | @mk v hl hsub ih =>
 intro hf
 have hsz:=hsize v (.mk hl hsub)
 refine zbc h110 ?_
 refine zac (zaa fun K hK=>?_)
 simp only [evW,evX,evM,evN,↓reduceIte]
 refine hK _ _ ?_; clear hK K
 refine zac (zac ?_)
 by_cases h60:60 < zfy v
 ·refine zaa fun K hK=>?_
  simp only [evW,evX,evM,evN,evC,far,hsz,eq_true h60,simprocAttr]
  refine hK _ _ ?_; clear hK K
  refine zaf true rfl (fun _=>?_) (fun h=>by cases h)
  refine zac (zaa fun K hK=>?_)
  simp only [evW,evX,evM,evN]
  refine hK _ _ ?_; clear hK K
  refine zap ⟨.inr rfl, ?_⟩
  simp only [evR,evX,evC,evN,↓reduceIte,far,zk8]
  simp [z50,show ¬ zfy v ≤ 60 by omega]
 ·have h60':zfy v ≤ 60:=by omega
  have hR:z50 v=zeq v:=by simp [z50,h60']
  have hbad:=z15 hf h60'
  refine zaa fun K hK=>?_
  simp only [evW,evX,evM,evN,evC,far,hsz,h60,simprocAttr]
  refine hK _ _ ?_; clear hK K
  refine zaf false rfl (fun h=>by cases h) (fun _=>zay ?_)
  refine zac (zac ?_)
  refine zaa fun K hK=>?_
  simp only [evW,evX,evM,evN]
  refine hK _ _ ?_; clear hK K
  refine za2 (zcy ?_)
  simp only [evH,evX,evN,simprocAttr]
  refine z16 hl (fun x hx=>ih x hx (zyo hf x hx)) (fun tm t1 hany=>?_) (fun tm hp hany t2=>?_) v.l.length 0 (by omega) rfl
  ·have hmL:zxw v.l=true:=by rw [zp9,← hbad,hany]; rfl
   have hle:∀ (b:Bool),(decide ((v.l.length:Int)=0))=v.l.isEmpty:=fun _=>by cases v.l <;> simp; omega
   refine zac (zac ?_)
   refine zaa fun K hK=>?_
   simp only [evW,evX,evM,evN,↓reduceIte,t1]
   refine hK _ _ ?_; clear hK K
   refine za2 ?_
   by_cases h1:v.kind=1
   ·refine zac (zaa fun K hK=>?_)
    simp only [evW,evX,evM,evN,↓reduceIte,eq_true h1]
    refine hK _ _ ?_; clear hK K
    refine zaf true rfl (fun _=>?_) (fun h=>by cases h)
    by_cases hse:v.s=[]
    ·refine zac (zaa fun K hK=>?_)
     simp only [evW,evX,evM,evN,t1,eq_true hse,zad,simprocAttr]
     refine hK _ _ ?_; clear hK K
     refine zap ⟨.inr rfl, ?_⟩
     simp only [evR,evX,evC,evN,↓reduceIte,far,zk8]
     rw [hR,zb0,hmL,hle true]; simp [h1,hse,zc0,zbv]
    ·refine zac (zaa fun K hK=>?_)
     simp only [evW,evX,evM,evN,t1,hse,simprocAttr]
     refine hK _ _ ?_; clear hK K
     refine zap ⟨.inr rfl, ?_⟩
     simp only [evR,evX,evC,evN,↓reduceIte,far,zk8]
     rw [hR,zb0,hmL]; simp [h1,hse,zc0,zbv]
   ·refine zac (zaa fun K hK=>?_)
    simp only [evW,evX,evM,evN,↓reduceIte,h1]
    refine hK _ _ ?_; clear hK K
    refine zaf false rfl (fun h=>by cases h) (fun _=>?_)
    by_cases h2:v.kind=2
    ·refine zac (zaa fun K hK=>?_)
     simp only [evW,evX,evM,evN,eq_true h2,simprocAttr]
     refine hK _ _ ?_; clear hK K
     refine zaf true rfl (fun _=>?_) (fun h=>by cases h)
     by_cases hse:v.s=[]
     ·by_cases hle0:(v.l.length:Int)=0
      ·have hemp:v.l=[]:=List.length_eq_zero_iff.1 (by omega)
       by_cases hi0:v.i=0
       ·refine zac (zaa fun K hK=>?_)
        simp only [evW,evX,evM,evN,t1,eq_true hse,zad,eq_true hle0,eq_true hi0,simprocAttr]
        refine hK _ _ ?_; clear hK K
        refine zap ⟨.inr rfl, ?_⟩
        simp only [evR,evX,evC,evN,↓reduceIte,far,zk8]
        rw [hR,zb0,hmL]; simp [h2,hse,zc0,zbv,hemp,hi0]
       ·refine zac (zaa fun K hK=>?_)
        simp only [evW,evX,evM,evN,t1,eq_true hse,zad,eq_true hle0,hi0,simprocAttr]
        refine hK _ _ ?_; clear hK K
        refine zap ⟨.inr rfl, ?_⟩
        simp only [evR,evX,evC,evN,↓reduceIte,far,zk8]
        rw [hR,zb0,hmL]; simp [h2,hse,zc0,zbv,hemp,hi0]
      ·have hne:v.l.isEmpty=false:=(hle true).symm.trans (decide_eq_false hle0)
       refine zac (zaa fun K hK=>?_)
       simp only [evW,evX,evM,evN,t1,eq_true hse,zad,hle0,simprocAttr]
       refine hK _ _ ?_; clear hK K
       refine zap ⟨.inr rfl, ?_⟩
       simp only [evR,evX,evC,evN,↓reduceIte,far,zk8]
       rw [hR,zb0,hmL]; simp [h2,hse,zc0,zbv,hne]
     ·refine zac (zaa fun K hK=>?_)
      simp only [evW,evX,evM,evN,t1,hse,simprocAttr]
      refine hK _ _ ?_; clear hK K
      refine zap ⟨.inr rfl, ?_⟩
      simp only [evR,evX,evC,evN,↓reduceIte,far,zk8]
      rw [hR,zb0,hmL]; simp [h2,hse,zc0,zbv]
    ·refine zac (zaa fun K hK=>?_)
     simp only [evW,evX,evM,evN,h2,simprocAttr]
     refine hK _ _ ?_; clear hK K
     refine zaf false rfl (fun h=>by cases h) (fun _=>?_)
     by_cases h3:v.kind=3
     ·refine zac (zaa fun K hK=>?_)
      simp only [evW,evX,evM,evN,eq_true h3,simprocAttr]
      refine hK _ _ ?_; clear hK K
      refine zaf true rfl (fun _=>?_) (fun h=>by cases h)
      by_cases hi0:v.i=0
      ·refine zac (zaa fun K hK=>?_)
       simp only [evW,evX,evM,evN,t1,eq_true hi0,zad,simprocAttr]
       refine hK _ _ ?_; clear hK K
       refine zap ⟨.inr rfl, ?_⟩
       simp only [evR,evX,evC,evN,↓reduceIte,far,zk8]
       rw [hR,zb0,hmL,hle true]; simp [h3,zc0,zbv,hi0]
      ·refine zac (zaa fun K hK=>?_)
       simp only [evW,evX,evM,evN,t1,hi0,simprocAttr]
       refine hK _ _ ?_; clear hK K
       refine zap ⟨.inr rfl, ?_⟩
       simp only [evR,evX,evC,evN,↓reduceIte,far,zk8]
       rw [hR,zb0,hmL]; simp [h3,zc0,zbv,hi0]
     ·refine zac (zaa fun K hK=>?_)
      simp only [evW,evX,evM,evN,h3,simprocAttr]
      refine hK _ _ ?_; clear hK K
      refine zaf false rfl (fun h=>by cases h) (fun _=>?_)
      by_cases h7:v.kind=7
      ·refine zac (zaa fun K hK=>?_)
       simp only [evW,evX,evM,evN,eq_true h7,simprocAttr]
       refine hK _ _ ?_; clear hK K
       refine zaf true rfl (fun _=>?_) (fun h=>by cases h)
       by_cases hse:v.s=[]
       ·by_cases hle0:(v.l.length:Int)=0
        ·have hemp:v.l=[]:=List.length_eq_zero_iff.1 (by omega)
         by_cases hi0:1 ≤ v.i
         ·refine zac (zaa fun K hK=>?_)
          simp only [evW,evX,evM,evN,t1,eq_true hse,zad,eq_true hle0,eq_true hi0,simprocAttr]
          refine hK _ _ ?_; clear hK K
          refine zap ⟨.inr rfl, ?_⟩
          simp only [evR,evX,evC,evN,↓reduceIte,far,zk8]
          rw [hR,zb0,hmL]; simp [h7,hse,zc0,zbv,hemp,hi0]
         ·refine zac (zaa fun K hK=>?_)
          simp only [evW,evX,evM,evN,t1,eq_true hse,zad,eq_true hle0,hi0,simprocAttr]
          refine hK _ _ ?_; clear hK K
          refine zap ⟨.inr rfl, ?_⟩
          simp only [evR,evX,evC,evN,↓reduceIte,far,zk8]
          rw [hR,zb0,hmL]; simp [h7,hse,zc0,zbv,hemp,hi0]
        ·have hne:v.l.isEmpty=false:=(hle true).symm.trans (decide_eq_false hle0)
         refine zac (zaa fun K hK=>?_)
         simp only [evW,evX,evM,evN,t1,eq_true hse,zad,hle0,simprocAttr]
         refine hK _ _ ?_; clear hK K
         refine zap ⟨.inr rfl, ?_⟩
         simp only [evR,evX,evC,evN,↓reduceIte,far,zk8]
         rw [hR,zb0,hmL]; simp [h7,hse,zc0,zbv,hne]
       ·refine zac (zaa fun K hK=>?_)
        simp only [evW,evX,evM,evN,t1,hse,simprocAttr]
        refine hK _ _ ?_; clear hK K
        refine zap ⟨.inr rfl, ?_⟩
        simp only [evR,evX,evC,evN,↓reduceIte,far,zk8]
        rw [hR,zb0,hmL]; simp [h7,hse,zc0,zbv]
      ·refine zac (zaa fun K hK=>?_)
       simp only [evW,evX,evM,evN,h7,simprocAttr]
       refine hK _ _ ?_; clear hK K
       refine zaf false rfl (fun h=>by cases h) (fun _=>zay ?_)
       refine zac (zac ?_)
       by_cases hi0:v.i=0
       ·by_cases hse:v.s=[]
        ·by_cases h4:v.kind < 4
         ·refine zaa fun K hK=>?_
          simp only [evW,evX,evM,evN,not_true_eq_false,t1,eq_true hi0,eq_true hse,h4,simprocAttr]
          refine hK _ _ ?_; clear hK K
          refine zaf true rfl (fun _=>?_) (fun h=>by cases h)
          refine zac (zaa fun K hK=>?_)
          simp only [evW,evX,evM,evN]
          refine hK _ _ ?_; clear hK K
          refine zap ⟨.inr rfl, ?_⟩
          simp only [evR,evX,evC,evN,↓reduceIte,far,zk8]
          rw [hR,zb0,show decide (1 ≤ v.kind∧v.kind ≤ 7)=false from decide_eq_false (by omega)]; rfl
         ·by_cases h6:6 < v.kind
          ·refine zaa fun K hK=>?_
           simp only [evW,evX,evM,evN,not_true_eq_false,t1,eq_true hi0,eq_true hse,h4,h6,simprocAttr]
           refine hK _ _ ?_; clear hK K
           refine zaf true rfl (fun _=>?_) (fun h=>by cases h)
           refine zac (zaa fun K hK=>?_)
           simp only [evW,evX,evM,evN]
           refine hK _ _ ?_; clear hK K
           refine zap ⟨.inr rfl, ?_⟩
           simp only [evR,evX,evC,evN,↓reduceIte,far,zk8]
           rw [hR,zb0,show decide (1 ≤ v.kind∧v.kind ≤ 7)=false from decide_eq_false (by omega)]; rfl
          ·have hrow:zeq v=zbv v.kind v.l:=by
            rw [zb0,hmL,show decide (1 ≤ v.kind∧v.kind ≤ 7)=true from Ql (by omega)]
            simp [hse,zc0,h1,h2,h7,hi0]
           refine zaa fun K hK=>?_
           simp only [evW,evX,evM,evN,not_true_eq_false,t1,eq_true hi0,eq_true hse,h4,h6,simprocAttr]
           refine hK _ _ ?_; clear hK K
           refine zaf false rfl (fun h=>by cases h) (fun _=>zay ?_)
           refine zac (zac ?_)
           refine zaa fun K hK=>?_
           simp only [evW,evX,evM,evN]
           refine hK _ _ ?_; clear hK K
           refine za2 (zcy ?_)
           simp only [evH,evX,evN,t1,simprocAttr]
           refine z17 hl (by omega) (by omega) (fun x hx y hy=>hcmp x y (hsub x hx) (hsub y hy)) (fun tm ho=>?_) (fun tm hp ho t2=>?_) v.l.length 0 (by omega) (ztx (by omega) (by omega) _).symm (fun _ j hj=>by omega)
           ·refine zac (zaa fun K hK=>?_)
            simp only [evW,evX,evM,evN]
            refine hK _ _ ?_; clear hK K
            refine zap ⟨.inr rfl, ?_⟩
            simp only [evR,evX,evC,evN,↓reduceIte,far,zk8]
            rw [hR,hrow,ho]
           ·refine ⟨.inr rfl, ?_⟩
            simp only [evR,evC,evN,far,zk8,t2]
            rw [hR,hrow,ho]
        ·refine zaa fun K hK=>?_
         simp only [evW,evX,evM,evN,not_true_eq_false,not_false_eq_true,t1,eq_true hi0,hse,simprocAttr]
         refine hK _ _ ?_; clear hK K
         refine zaf true rfl (fun _=>?_) (fun h=>by cases h)
         refine zac (zaa fun K hK=>?_)
         simp only [evW,evX,evM,evN]
         refine hK _ _ ?_; clear hK K
         refine zap ⟨.inr rfl, ?_⟩
         simp only [evR,evX,evC,evN,↓reduceIte,far,zk8]
         rw [hR,zb0]; simp [hse,h3]
       ·refine zaa fun K hK=>?_
        simp only [evW,evX,evM,evN,not_false_eq_true,t1,hi0,simprocAttr]
        refine hK _ _ ?_; clear hK K
        refine zaf true rfl (fun _=>?_) (fun h=>by cases h)
        refine zac (zaa fun K hK=>?_)
        simp only [evW,evX,evM,evN]
        refine hK _ _ ?_; clear hK K
        refine zap ⟨.inr rfl, ?_⟩
        simp only [evR,evX,evC,evN,↓reduceIte,far,zk8]
        rw [hR,zb0]; simp [zc0,h1,h2,h7,hi0]
  ·refine ⟨.inr rfl, ?_⟩
   simp only [evR,evC,evN,far,zk8,t2]
   have hmL:zxw v.l=false:=by rw [zp9,← hbad,hany]; rfl
   rw [hR,zb0,hmL]; simp
end Ab.Vx
