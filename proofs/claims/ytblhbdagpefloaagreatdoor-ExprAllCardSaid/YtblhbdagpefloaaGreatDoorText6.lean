/-
 The document's numbers.
-/
import Derived.Test.YtblhbdagpefloaaGreatDoorText5
import Derived.Test.YtblhbdagpefloaaGreatDoorPack3
import Derived.Test.YtblhbdagpefloaaGreatDoorText1
import Derived.Test.YtblhbdagpefloaaGreatDoorPack5
set_option linter.unusedSimpArgs false
set_option linter.unusedVariables false
set_option linter.unusedSectionVars false
set_option linter.unnecessarySimpa false
set_option maxRecDepth 100000
set_option maxHeartbeats 4000000
namespace Ab.Vx
open Go
variable {E:Nat→Option Fn}
def zlj (s:List UInt8):GVal:=match zgq s with | some m=>zok m | none=>zef 2
def zn6:CCode:=match zye.body with
 | .seq _ (.seq _ (.seq _ (.seq (.seq _ (.block _ (.loop _ c))) _)))=>c
 | _=>.skip
abbrev zbx:Option Obj:=some (.box [.d (.i .i64 0),.d (.i .i64 0),.d (.s []),.d (.l 4 [])])
theorem z4g (e279:E 279=some (.code zw6)){s:List UInt8}(hs:s.length ≤ 18){Q:Ex→St→Prop}(r:GVal)
  (hbad:zgq s=none→∀ tm,zba tm 2 = .ptr 0 0→Q .ret ⟨tm,[some (.box [.d (.i .i64 7),.d (.i .i64 2),.d (.s []),.d (.l 4 [])])]⟩)
  (hok:∀ m:Nat,zfd 0 s=some m→∀ tm,zba tm 2 = .ptr 0 0→zba tm 3 = .d (.i .i64 m)→Q (.exit 0) ⟨tm,[zbx]⟩) (hne:s ≠ []) :
  ∀ (m i acc:Nat),i + m=s.length→acc < 10 ^ i→zfd 0 s=zfd acc (s.drop i) →
  LX E zn6 ⟨[0,2,3,4],[],[],[],[(2,3)],true⟩ 1 ⟨[(0,.d (.s s)),(2,.ptr 0 0),(3,.d (.i .i64 acc)),(4,.d (.i .i64 i))],[zbx]⟩ Q:=by
 have b2:=zdb e279 2
 have hdec:zgq s=zfd 0 s:=by
  unfold zgq
  cases s with
  | nil=>exact absurd rfl hne
  | cons x r=>simp only []; rw [if_pos hs]
 intro m
 induction m with
 | zero =>
  intro i acc hi ha hd
  have hn:¬ ((i:Int) < (s.length:Int)):=by omega
  refine zan ?_
  simp only [zae,zbo,zn6,zye,hn,simprocAttr]
  refine hok acc ?_ _ rfl rfl
  rw [hd,List.drop_of_length_le (by omega)]; rfl
 | succ m ih =>
  intro i acc hi ha hd
  have hy:(i:Int) < (s.length:Int):=by omega
  have hil:i < s.length:=by omega
  have h0:(0:Int) ≤ (i:Int):=by omega
  have gs:s[i]?=some s[i]:=Qd hil
  have hdr:s.drop i=s[i] :: s.drop (i + 1):=List.drop_eq_getElem_cons hil
  generalize s[i]=c at gs hdr
  have b:=c.toBitVec.isLt
  have b':c.toNat < 256:=b
  have w:IntKind.i64.wrap ((i:Int) + 1)=((i + 1:Nat):Int):=by rw [i64_in (by omega) (by omega)]; omega
  rw [hdr] at hd
  by_cases k1:(c.toNat:Int) < 48
  ·have hn:zgq s=none:=by
    rw [hdec,hd]
    show (if 48 ≤ c.toNat∧c.toNat ≤ 57 then _ else none)=none
    rw [if_neg (by omega)]
   refine zan ?_
   simp only [zae,zbo,zn6,zye,eq_true hy,eq_true h0,gs,eq_true k1,b2,zef,gF,simprocAttr]
   exact hbad hn _ rfl
  by_cases k2:(57:Int) < (c.toNat:Int)
  ·have hn:zgq s=none:=by
    rw [hdec,hd]
    show (if 48 ≤ c.toNat∧c.toNat ≤ 57 then _ else none)=none
    rw [if_neg (by omega)]
   refine zan ?_
   simp only [zae,zbo,zn6,zye,eq_true hy,eq_true h0,gs,k1,eq_true k2,b2,zef,gF,simprocAttr]
   exact hbad hn _ rfl
  ·have hp:10 ^ i ≤ 10 ^ 17:=Nat.pow_le_pow_right (by omega) (by omega)
   have hp':(10:Nat) ^ 17=100000000000000000:=by decide
   have hs':10 ^ (i + 1)=10 ^ i * 10:=Nat.pow_succ ..
   have hnx:zfd acc (c :: s.drop (i + 1))=zfd (acc * 10 + (c.toNat - 48)) (s.drop (i + 1)):=by
    show (if 48 ≤ c.toNat∧c.toNat ≤ 57 then _ else none)=_
    rw [if_pos (by omega)]
   have wM:IntKind.i64.wrap ((acc:Int) * 10)=(acc:Int) * 10:=i64_in (by omega) (by omega)
   have wS:IntKind.u8.wrap ((c.toNat:Int) - 48)=((c.toNat - 48:Nat):Int):=by
    have:((c.toNat:Int) - 48)=((c.toNat - 48:Nat):Int):=by omega
    rw [this]
    exact Go.IntWalk.u8_in _ (by omega)
   have wC:IntKind.i64.wrap ((c.toNat - 48:Nat):Int)=((c.toNat - 48:Nat):Int):=i64_in (by omega) (by omega)
   have wA:IntKind.i64.wrap ((acc:Int) * 10 + ((c.toNat - 48:Nat):Int))=((acc * 10 + (c.toNat - 48):Nat):Int):=by rw [i64_in (by omega) (by omega)]; omega
   have ih':=ih (i + 1) (acc * 10 + (c.toNat - 48)) (by omega) (by omega) (by rw [hd,hnx])
   refine zan ?_
   simp only [zae,zbo,zn6,zye,eq_true hy,eq_true h0,gs,k1,k2,wM,wS,wC,wA,w,simprocAttr]
   exact ⟨_,rfl,ih'⟩
theorem zxt (e281:E 281=some (.code zye))(e279:E 279=some (.code zw6))(s:List UInt8):lcall E 281 [.d (.s s)] []=some ((zlj s).arg,[]):=by
 have b2:=zdb e279 2
 refine zat e281 ?_
 by_cases h1:(s.length:Int) < 1
 ·have hn:zlj s=zef 2:=by
   have:s=[]:=List.length_eq_zero_iff.1 (by omega)
   subst this; rfl
  rw [hn]
  simp only [zae,zye,eq_true h1,b2,simprocAttr]
 by_cases h2:(18:Int) < s.length
 ·have hn:zlj s=zef 2:=by
   unfold zlj zgq
   cases s with
   | nil=>rfl
   | cons x r=>simp only []; rw [if_neg (by omega)]
  rw [hn]
  simp only [zae,zye,h1,eq_true h2,b2,simprocAttr]
 simp only [zae,zye,h1,h2,simprocAttr]
 have hne:s ≠ []:=fun e=>by subst e; simp at h1
 have hdec:zgq s=zfd 0 s:=by
  unfold zgq
  cases s with
  | nil=>exact absurd rfl hne
  | cons x r=>simp only []; rw [if_pos (by omega)]
 refine z4g e279 (by omega) (zef 2) (fun hn tm t2=>?_) (fun m hm tm t2 t3=>?_) hne s.length 0 0 (by omega) (by decide) rfl
 ·have:zlj s=zef 2:=by unfold zlj; rw [hn]
  rw [this]
  simp only [zae,t2,simprocAttr]
  rfl
 ·have:zlj s=zok m:=by unfold zlj; rw [hdec,hm]
  rw [this]
  simp only [zae,t2,t3,simprocAttr]
  rfl
open Go
theorem z4h (e291:E 291=some (.code zza))(e288:E 288=some (.code z8f))(hf:ztj E){m k:GVal}(hm:szN m ≤ 500):lcall E 291 [.d (.i .i64 18),.d (.l 4 [m.row,k.row])] []=some ((zjr (zjo k.s m.l)).arg,[]):=by
 have lm:=zfq m
 have f1:=hf m.l k.s (by omega)
 have tr:=zfp e288 (zjo k.s m.l)
 rw [zas,zas]
 refine zat e291 ?_
 simp only [zae,zza,f1,tr,simprocAttr]
 rfl
theorem z4i (e291:E 291=some (.code zza))(e279:E 279=some (.code zw6))(hf:ztj E){m k:GVal}(hm:szN m ≤ 500)(hp:∀ x ∈ m.l,x.l.length=2) :
  lcall E 291 [.d (.i .i64 17),.d (.l 4 [m.row,k.row])] []=some ((zyj m k).arg,[]):=by
 have lm:=zfq m
 have b7:=zdb e279 7
 have f1:=hf m.l k.s (by omega)
 rw [zas,zas]
 refine zat e291 ?_
 unfold zyj
 cases hh:zjo k.s m.l with
 | false =>
  rw [hh] at f1
  simp only [zae,zza,f1,b7,simprocAttr]
  rfl
 | true =>
  rw [hh] at f1
  obtain ⟨x,hx⟩:=zkx hh
  have h0:(0:Int) ≤ (zb4 k.s m.l:Nat):=by omega
  have gx:(zab m.l)[zb4 k.s m.l]?=some x.row:=by rw [zaw,hx]; rfl
  have l2:=hp x (List.mem_of_getElem? hx)
  obtain ⟨xk,xi,xs,xl⟩:=x
  match xl,l2 with
  | [a,b],_ =>
   rw [if_pos rfl,hx]
   simp only [GVal.row,zab,zas] at gx
   simp only [zae,zza,f1,eq_true h0,gx,simprocAttr]
   rfl
theorem z4j (e291:E 291=some (.code zza))(hf:ztj E){m k v:GVal}(hm:szN m ≤ 500) :
  lcall E 291 [.d (.i .i64 16),.d (.l 4 [m.row,k.row,v.row])] []=some ((GVal.mk 6 0 [] (zu6 m.l k v)).arg,[]):=by
 have lm:=zfq m
 have f1:=hf m.l k.s (by omega)
 have h1:(0:Int) ≤ (zb4 k.s m.l:Nat):=by omega
 have hle:=zoa k.s m.l
 have h2:((zb4 k.s m.l:Nat):Int) ≤ (m.l.length:Int):=by omega
 rw [zas,zas,zas]
 refine zat e291 ?_
 unfold zu6
 have ta:(zab m.l).take m.l.length=zab m.l:=List.take_of_length_le (by rw [zad]; omega)
 have t1:(zab m.l).take (zb4 k.s m.l)=zab (m.l.take (zb4 k.s m.l)):=zdd ..
 have t2:∀ n,(zab m.l).drop n=zab (m.l.drop n):=fun n=>zcu ..
 have lt1:(m.l.take (zb4 k.s m.l)).length=zb4 k.s m.l:=by rw [List.length_take]; omega
 have fin:∀ n,some (V.agg [.d (.i .i64 6),.d (.i .i64 0),.d (.s []),.d (.l 4 (zab (m.l.take (zb4 k.s m.l))++[[.i .i64 4,.i .i64 0,.s [],.l 4 [[.i .i64 k.kind,.i .i64 k.i,.s k.s,.l 4 (zab k.l)],[.i .i64 v.kind,.i .i64 v.i,.s v.s,.l 4 (zab v.l)]]]]++zab (m.l.drop n)))],([]:List (Option Obj)))=some ((GVal.mk 6 0 [] (m.l.take (zb4 k.s m.l)++zlp k v :: m.l.drop n)).arg,[]):=fun n=>by
  have:zab (m.l.take (zb4 k.s m.l)++zlp k v :: m.l.drop n)=zab (m.l.take (zb4 k.s m.l))++[[.i .i64 4,.i .i64 0,.s [],.l 4 [[.i .i64 k.kind,.i .i64 k.i,.s k.s,.l 4 (zab k.l)],[.i .i64 v.kind,.i .i64 v.i,.s v.s,.l 4 (zab v.l)]]]]++zab (m.l.drop n):=by
   simp [zcc,zab,zlp,zas,gF]
  rw [← this]; rfl
 cases hh:zjo k.s m.l with
 | false =>
  rw [hh] at f1
  simp only [zae,zza,f1,zad,eq_true h1,eq_true h2,and_self,ta,t1,t2,lt1,Qg,List.length_drop,simprocAttr]
  exact ⟨by rfl,by rfl,zb3 (by omega),zb3 (by omega),zb3 (by omega),by rfl,fin _⟩
 | true =>
  rw [hh] at f1
  obtain ⟨x,hx⟩:=zkx hh
  have hlt:zb4 k.s m.l < m.l.length:=by
   rcases Qn (zb4 k.s m.l) m.l.length with h | h
   ·exact h
   ·rw [Qe h] at hx; cases hx
  have h3:(1:Int) ≤ ((m.l.length - zb4 k.s m.l:Nat):Int):=by omega
  have ta2:(zab (m.l.drop (zb4 k.s m.l))).take (m.l.length - zb4 k.s m.l)=zab (m.l.drop (zb4 k.s m.l)):=List.take_of_length_le (by rw [zad,List.length_drop]; omega)
  have t3:(zab (m.l.drop (zb4 k.s m.l))).drop 1=zab (m.l.drop (zb4 k.s m.l + 1)):=by rw [zcu,List.drop_drop]
  simp only [zae,zza,f1,zad,eq_true h1,eq_true h2,and_self,ta,t1,t2,lt1,Qg,List.length_drop,eq_true h3,ta2,t3,simprocAttr]
  exact ⟨by rfl,by rfl,zb3 (by omega),zb3 (by omega),zb3 (by omega),by rfl,fin _⟩
open Go
structure ZE (E:Nat→Option Fn):Prop where
 e113:E 113=some (.code z58)
 e115:E 115=some (.code zvm)
 e117:E 117=some (.code z1y)
 e120:E 120=some (.code z3b)
 e121:E 121=some (.code c121)
 e131:E 131=some (.code z3e)
 e138:E 138=some (.code Zij)
 e278:E 278=some (.code zov)
 e279:E 279=some (.code zw6)
 e280:E 280=some (.code Za7)
 e281:E 281=some (.code zye)
 e282:E 282=some (.code zg0)
 e288:E 288=some (.code z8f)
 e289:E 289=some (.code z3j)
 e290:E 290=some (.code zml)
 e291:E 291=some (.code zza)
theorem Zju (Z:ZE E):∀ (a b:GVal),Small a→Small b→lcall E 115 [a.arg,b.arg] []=some (.d (.i .i64 (zda a b)),[]):=zn9 Z.e115 Z.e131
theorem Znf (Z:ZE E):Zha E:=fun ws v h1 h2 h3=>ztf Z.e117 (fun x hx=>Zju Z x v (h2 x hx) h3) h1
theorem z9e (Z:ZE E):ztj E:=fun ws k h=>zpz Z.e120 (fun v=>zwe Z.e138 rfl v) h k
theorem Zjv (Z:ZE E){a b:GVal}(ha:Gd a)(hb:Gd b):lcall E 282 [.d (.i .i64 7),.d (.l 4 [a.row,b.row])] []=some ((zl5 7 a b).arg,[]):=by
 have c1:=z0n Z.e121 (Zju Z) a b (gsm ha) (gsm hb)
 have tr:=zfp Z.e288 (decide (zda a b=0))
 rw [zas,zas]
 refine zat Z.e282 ?_
 simp only [zae,zg0,c1,tr,simprocAttr]
 exact ⟨by rfl,by rfl⟩
theorem z9f (Z:ZE E){a b:GVal}(ha:Gd a)(hb:Gd b):lcall E 282 [.d (.i .i64 8),.d (.l 4 [a.row,b.row])] []=some ((zl5 8 a b).arg,[]):=by
 have c1:=Zju Z a b (gsm ha) (gsm hb)
 have tr:=zfp Z.e288 (decide (zda a b < 0))
 rw [zas,zas]
 refine zat Z.e282 ?_
 simp only [zae,zg0,c1,tr,simprocAttr]
 exact ⟨by rfl,by rfl⟩
theorem Zbe (Z:ZE E)(a b:GVal)(k:Int):lcall E 289 [.d (.l 4 [a.row,b.row]),.d (.i .i64 k)] []=some (.d (.b (decide (a.kind=k) && decide (b.kind=k))),[]):=by
 have:=z1f Z.e289 (l:=[a,b]) (by simp) k
 simp only [z6y,List.all_cons,List.all_nil,Bool.and_true,zab] at this
 exact this
theorem Zjw (Z:ZE E)(a:GVal)(k:Int):lcall E 289 [.d (.l 4 [a.row]),.d (.i .i64 k)] []=some (.d (.b (decide (a.kind=k))),[]):=by
 have:=z1f Z.e289 (l:=[a]) (by simp) k
 simp only [z6y,List.all_cons,List.all_nil,Bool.and_true,zab] at this
 exact this
theorem Zgv (Z:ZE E){op:Int}(ho:op=4 ∨ op=5 ∨ op=6){a b:GVal}(ha:zcv a.i)(hb:zcv b.i):lcall E 282 [.d (.i .i64 op),.d (.l 4 [a.row,b.row])] []=some ((zl5 op a b).arg,[]):=by
 have c1:=Zbe Z a b 1
 have c2:=z1h Z.e290 Z.e279 ho ha hb
 have b4:=zdb Z.e279 4
 have hs:zl5 op a b=if a.kind=1∧b.kind=1 then zoz op a.i b.i else zef 4:=by unfold zl5; rw [if_pos ho]
 rw [hs]
 rw [zas,zas] at c1 ⊢
 refine zat Z.e282 ?_
 by_cases h:a.kind=1∧b.kind=1
 ·rw [if_pos h]
  rw [Ql h.1,Ql h.2] at c1
  rcases ho with rfl | rfl | rfl
  ·simp only [zae,zg0,c1,c2,simprocAttr]
   rfl
  ·simp only [zae,zg0,c1,c2,simprocAttr]
   rfl
  ·simp only [zae,zg0,c1,c2,simprocAttr]
   rfl
 ·rw [if_neg h]
  rw [show (decide (a.kind=1) && decide (b.kind=1))=false by simpa using h] at c1
  rcases ho with rfl | rfl | rfl
  ·simp only [zae,zg0,c1,b4,simprocAttr]
  ·simp only [zae,zg0,c1,b4,simprocAttr]
  ·simp only [zae,zg0,c1,b4,simprocAttr]
theorem z6o {a:GVal}(h:Gd a)(h2:a.kind=2):a.i=0 ∨ a.i=1:=by
 obtain ⟨_,h3,_⟩:=zdo h.may
 rw [h2] at h3
 simpa [zc0] using h3
theorem Zgw (Z:ZE E){a:GVal}(ha:Gd a):lcall E 282 [.d (.i .i64 11),.d (.l 4 [a.row])] []=some ((zej 11 a a).arg,[]):=by
 have c1:=Zjw Z a 2
 have b4:=zdb Z.e279 4
 have tr:=zfp Z.e288 (decide (a.i=0))
 rw [zas] at c1 ⊢
 unfold zej
 rw [if_pos rfl]
 refine zat Z.e282 ?_
 by_cases h:a.kind=2
 ·rw [if_pos h]
  rw [Ql h] at c1
  simp only [zae,zg0,c1,tr,simprocAttr]
 ·rw [if_neg h]
  rw [decide_eq_false h] at c1
  simp only [zae,zg0,c1,b4,simprocAttr]
theorem z4k (Z:ZE E){op:Int}(ho:op=9 ∨ op=10){a b:GVal}(ha:Gd a)(hb:Gd b):lcall E 282 [.d (.i .i64 op),.d (.l 4 [a.row,b.row])] []=some ((zl5 op a b).arg,[]):=by
 have c1:=Zbe Z a b 2
 have b4:=zdb Z.e279 4
 have tT:=zfp Z.e288 true
 have tF:=zfp Z.e288 false
 have hs:zl5 op a b=zej op a b:=by
  unfold zl5
  rw [if_neg (by omega),if_neg (by omega),if_neg (by omega),if_pos ho]
 rw [hs]
 unfold zej
 rw [if_neg (by omega)]
 rw [zas,zas] at c1 ⊢
 refine zat Z.e282 ?_
 by_cases h:a.kind=2∧b.kind=2
 ·rw [if_pos h]
  rw [Ql h.1,Ql h.2] at c1
  rcases z6o ha h.1 with a0 | a0 <;> rcases z6o hb h.2 with b0 | b0 <;> rcases ho with rfl | rfl
  all_goals
   rw [a0,b0] at c1 ⊢
   simp only [zae,zg0,c1,tT,tF,simprocAttr]
   first | done | rfl
 ·rw [if_neg h]
  rw [show (decide (a.kind=2) && decide (b.kind=2))=false by simpa using h] at c1
  rcases ho with rfl | rfl
  ·simp only [zae,zg0,c1,b4,simprocAttr]
  ·simp only [zae,zg0,c1,b4,simprocAttr]
theorem Zgx (Z:ZE E){a:GVal}(ha:Gd a):lcall E 282 [.d (.i .i64 15),.d (.l 4 [a.row])] []=some ((ze3 a).arg,[]):=by
 have b4:=zdb Z.e279 4
 rw [zas]
 unfold ze3
 refine zat Z.e282 ?_
 by_cases h3:a.kind=3
 ·rw [if_pos h3]
  simp only [zae,zg0,h3,simprocAttr]
  rfl
 rw [if_neg h3]
 by_cases h:a.kind=4 ∨ a.kind=5 ∨ a.kind=6
 ·rw [if_pos h]
  have k1:(4:Int) ≤ a.kind:=by omega
  have k2:a.kind ≤ 6:=by omega
  simp only [zae,zg0,h3,eq_true k1,eq_true k2,zad,simprocAttr]
  rfl
 ·rw [if_neg h]
  by_cases k1:(4:Int) ≤ a.kind
  ·have k2:¬ a.kind ≤ 6:=by omega
   simp only [zae,zg0,h3,eq_true k1,k2,b4,simprocAttr]
  ·simp only [zae,zg0,h3,k1,b4,simprocAttr]
theorem Zgy (Z:ZE E){op:Int}(ho:op=19 ∨ op=20){a b:GVal}(ha:Gd a)(hb:Gd b):lcall E 282 [.d (.i .i64 op),.d (.l 4 [a.row,b.row])] []=some ((zl5 op a b).arg,[]):=by
 have b4:=zdb Z.e279 4
 have la:=zfq a
 have c1:=Znf Z a.l b (by have:=ha.size; omega) (fun x hx=>(gsm ha).sub x hx) (gsm hb)
 have li:(zab (ziq a.l b)).length=(ziq a.l b).length:=zad _
 have tr:=zfp Z.e288 (decide ((ziq a.l b).length=a.l.length))
 have hs:zl5 op a b=setG op a b:=by
  unfold zl5
  rw [if_neg (by omega),if_neg (by omega),if_neg (by omega),if_neg (by omega),if_neg (by omega),if_neg (by omega),if_neg (by omega)]
 rw [hs]
 unfold setG
 rw [zas,zas]
 refine zat Z.e282 ?_
 have hd:decide (((ziq a.l b).length:Int)=(a.l.length:Int))=decide ((ziq a.l b).length=a.l.length):=by rw [decide_eq_decide]; omega
 by_cases h:a.kind=5
 ·rw [if_pos h]
  rcases ho with rfl | rfl
  ·simp only [zae,zg0,h,c1,simprocAttr]
   first | exact ⟨by rfl,by rfl⟩ | rfl
  ·simp only [zae,zg0,h,c1,li,zad,hd,tr,simprocAttr]
   first | exact ⟨by rfl,by rfl⟩ | rfl
 ·rw [if_neg h]
  rcases ho with rfl | rfl
  ·simp only [zae,zg0,h,b4,simprocAttr]
  ·simp only [zae,zg0,h,b4,simprocAttr]
open Go
theorem Zkn {v:GVal}(h:Gd v)(h3:v.kind ≠ 3):v.s=[]:=by
 obtain ⟨_,_,h4,_⟩:=zdo h.may
 rcases h4 with h4 | h4
 ·exact absurd h4 h3
 ·exact h4
theorem Zko {v:GVal}(h:Gd v)(h3:v.kind=3):v.l=[]:=by
 obtain ⟨_,_,_,h4,_⟩:=zdo h.may
 rw [h3] at h4
 exact (Zj3 (by decide) (by decide) (by decide)).1 h4
theorem z9g {v:GVal}(h:Gd v):v.s.length ≤ 10000:=by have:=Zhv v; have:=h.size; omega
theorem Zgz (Z:ZE E){a b:GVal}(ha:Gd a)(hb:Gd b):lcall E 282 [.d (.i .i64 13),.d (.l 4 [a.row,b.row])] []=some ((ztv a b).arg,[]):=by
 have c3:=Zbe Z a b 3
 have c4:=Zbe Z a b 4
 have b4:=zdb Z.e279 4
 have la:=zfq a
 have lb:=zfq b
 have za:=ha.size
 have zb:=hb.size
 rw [zas,zas] at c3 c4 ⊢
 refine zat Z.e282 ?_
 by_cases h3:a.kind=3∧b.kind=3
 ·rw [Ql h3.1,Ql h3.2] at c3
  have hr:ztv a b = .mk 3 0 (a.s++b.s) []:=by
   unfold ztv
   rw [if_neg (by omega),Zko ha h3.1,Zko hb h3.2,h3.1]; rfl
  rw [hr]
  have hz:a.s.length + b.s.length ≤ 4611686018427387904:=by have:=z9g ha; have:=z9g hb; omega
  simp only [zae,zg0,c3,eq_true hz,simprocAttr]
  first | exact ⟨by rfl,by rfl⟩ | rfl
 have n3:(decide (a.kind=3) && decide (b.kind=3))=false:=by simpa using h3
 rw [n3] at c3
 by_cases h4:a.kind=4∧b.kind=4
 ·rw [Ql h4.1,Ql h4.2] at c4
  have hr:ztv a b = .mk 4 0 [] (a.l++b.l):=by
   unfold ztv
   rw [if_neg (by omega),Zkn ha (by omega),Zkn hb (by omega),h4.1]; rfl
  rw [hr]
  have r1:zbi (a.l.length) 56=true:=zb3 (by omega)
  have r2:zbi (a.l.length + b.l.length) 56=true:=zb3 (by omega)
  simp only [zae,zg0,c3,c4,zad,r1,r2,simprocAttr]
  rw [← zcc]
  first | exact ⟨by rfl,by rfl⟩ | rfl
 ·have n4:(decide (a.kind=4) && decide (b.kind=4))=false:=by simpa using h4
  rw [n4] at c4
  have hr:ztv a b=zef 4:=by unfold ztv; rw [if_pos (by omega)]
  rw [hr]
  simp only [zae,zg0,c3,c4,b4,simprocAttr]
theorem Zg0 (Z:ZE E){op:Int}(ho:op=17 ∨ op=18){a b:GVal}(ha:Gd a):lcall E 282 [.d (.i .i64 op),.d (.l 4 [a.row,b.row])] []=some ((zl5 op a b).arg,[]):=by
 have b4:=zdb Z.e279 4
 have zs:=ha.size
 have k1:a.kind=6→lcall E 291 [.d (.i .i64 17),.d (.l 4 [a.row,b.row])] []=some ((zyj a b).arg,[]):=fun h6 =>
  z4i Z.e291 Z.e279 (z9e Z) (by omega) (((z0x ha.may).2 h6).2)
 have k2:lcall E 291 [.d (.i .i64 18),.d (.l 4 [a.row,b.row])] []=some ((zjr (zjo b.s a.l)).arg,[]):=z4h Z.e291 Z.e288 (z9e Z) (by omega)
 rw [zas,zas] at k1 k2 ⊢
 refine zat Z.e282 ?_
 rcases ho with rfl | rfl
 ·have hs:zl5 17 a b=if a.kind=6∧b.kind=3 then zyj a b else zef 4:=rfl
  rw [hs]
  by_cases h6:a.kind=6
  ·have k1:=k1 h6
   rw [h6] at k1 ⊢
   by_cases h3:b.kind=3
   ·rw [if_pos ⟨rfl,h3⟩]
    rw [h3] at k1 ⊢
    simp only [zae,zg0,k1,simprocAttr]
   ·rw [if_neg (by omega)]
    simp only [zae,zg0,h3,b4,simprocAttr]
  ·rw [if_neg (by omega)]
   simp only [zae,zg0,h6,b4,simprocAttr]
 ·have hs:zl5 18 a b=if a.kind=6∧b.kind=3 then zjr (zjo b.s a.l) else zef 4:=rfl
  rw [hs]
  by_cases h6:a.kind=6
  ·rw [h6] at k2 ⊢
   by_cases h3:b.kind=3
   ·rw [if_pos ⟨rfl,h3⟩]
    rw [h3] at k2 ⊢
    simp only [zae,zg0,k2,simprocAttr]
   ·rw [if_neg (by omega)]
    simp only [zae,zg0,h3,b4,simprocAttr]
  ·rw [if_neg (by omega)]
   simp only [zae,zg0,h6,b4,simprocAttr]
theorem Zg1 (Z:ZE E){a b c:GVal}(ha:Gd a):lcall E 282 [.d (.i .i64 16),.d (.l 4 [a.row,b.row,c.row])] []=some ((if a.kind=6∧b.kind=3 then GVal.mk 6 0 [] (zu6 a.l b c) else zef 4).arg,[]):=by
 have b4:=zdb Z.e279 4
 have zs:=ha.size
 have k1:=z4j Z.e291 (z9e Z) (m:=a) (k:=b) (v:=c) (by omega)
 rw [zas,zas,zas] at k1 ⊢
 refine zat Z.e282 ?_
 by_cases h6:a.kind=6
 ·rw [h6] at k1 ⊢
  by_cases h3:b.kind=3
  ·rw [if_pos ⟨rfl,h3⟩]
   rw [h3] at k1 ⊢
   simp only [zae,zg0,k1,simprocAttr]
  ·rw [if_neg (by omega)]
   simp only [zae,zg0,h3,b4,simprocAttr]
 ·rw [if_neg (by omega)]
  simp only [zae,zg0,h6,b4,simprocAttr]
theorem z9h (Z:ZE E)(l:List GVal):lcall E 282 [.d (.i .i64 14),.d (.l 4 (zab l))] []=some ((GVal.mk 4 0 [] l).arg,[]):=by
 refine zat Z.e282 ?_
 simp only [zae,zg0,simprocAttr]
 rfl
theorem Zg2 (Z:ZE E){op:Int}(ho:op=21 ∨ op=22)(l:List GVal):lcall E 282 [.d (.i .i64 op),.d (.l 4 (zab l))] []=some ((if op=21 then GVal.mk 5 0 [] [] else GVal.mk 6 0 [] []).arg,[]):=by
 refine zat Z.e282 ?_
 rcases ho with rfl | rfl
 ·simp only [zae,zg0,simprocAttr]
  rfl
 ·simp only [zae,zg0,simprocAttr]
  rfl
open Go
theorem zgr {n:Int}(h : -1000 ≤ n∧n ≤ 1000000000000000000):zcv n:=by unfold zcv; simp only [zi0,zol]; omega
theorem zh3 {k i:Int}{s:List UInt8}(h:zcv i):FitV (.mk k i s []):=⟨h,fun x hx=>by cases hx⟩
theorem zcn {e:Int}(h:1 ≤ e∧e ≤ 13):FitV (zef e):=zh3 (zgr (by omega))
theorem zq8 {n:Int}(h:zcv n):FitV (zok n):=zh3 h
theorem zn7 (b:Bool):FitV (zjr b):=zh3 (by cases b <;> decide)
theorem zgs {k:Int}{l:List GVal}(h:∀ x ∈ l,FitV x):FitV (.mk k 0 [] l):=⟨zgr (by show -1000 ≤ (0:Int)∧(0:Int) ≤ _; omega),h⟩
theorem z4l {v:GVal}(h:FitV v):FitV (zuw v):=by
 unfold zuw
 split
 ·exact zcn (by decide)
 ·exact h
theorem z4m (op a b:Int):FitV (zoz op a b):=by
 unfold zoz
 repeat' split
 all_goals first | exact zcn (by decide) | exact zq8 (zh7 _)
theorem zpv (op:Int)(a b:GVal):FitV (zej op a b):=by
 unfold zej
 repeat' split
 all_goals first | exact zcn (by decide) | exact zn7 _
theorem zuq {a:GVal}(ha:Gd a):FitV (ze3 a):=by
 have:=zfq a
 have:=ha.size
 have:=z9g ha
 unfold ze3
 repeat' split
 all_goals first | exact zcn (by decide) | exact zq8 (zgr (by omega))
theorem z4n {a b:GVal}(ha:FitV a)(hb:FitV b):FitV (ztv a b):=by
 unfold ztv
 split
 ·exact zcn (by decide)
 ·refine ⟨zgr (by show -1000 ≤ (0:Int)∧(0:Int) ≤ _; omega),fun x hx=>?_⟩
  rcases List.mem_append.1 hx with h | h
  ·exact ha.l x h
  ·exact hb.l x h
theorem z4o {m k:GVal}(hm:FitV m):FitV (zyj m k):=by
 unfold zyj
 split
 ·split
  ·rename_i x y heq
   exact (hm.l _ (List.mem_of_getElem? heq)).l _ (List.mem_cons_of_mem _ List.mem_cons_self)
  ·exact zcn (by decide)
 ·exact zcn (by decide)
theorem z4p {op:Int}{s v:GVal}(hs:FitV s)(hv:FitV v):FitV (setG op s v):=by
 unfold setG
 split
 ·split
  ·exact zn7 _
  ·refine zgs fun x hx=>?_
   rcases zrf hx with h | h
   ·exact hs.l x h
   ·rw [h]; exact hv
 ·exact zcn (by decide)
theorem z4q {m k v:GVal}(hm:FitV m)(hk:FitV k)(hv:FitV v):FitV (.mk 6 0 [] (zu6 m.l k v)):=by
 refine zgs fun x hx=>?_
 rcases zuv hx with h | h
 ·exact hm.l x h
 ·rw [h]
  refine zgs fun y hy=>?_
  simp only [List.mem_cons,List.not_mem_nil,or_false] at hy
  rcases hy with rfl | rfl
  ·exact hk
  ·exact hv
theorem z9i {op:Int}{l:List GVal}(hl:∀ x ∈ l,Gd x∧FitV x):FitV (ofG op l):=by
 unfold ofG
 split
 ·exact zgs (by simp)
 split
 ·exact zgs (by simp)
 split
 ·exact zgs fun x hx=>(hl x hx).2
 split
 ·split
  ·exact zpv _ _ _
  ·exact zuq (hl _ (by simp)).1
 ·rename_i a b
  have ha:=hl a (by simp)
  have hb:=hl b (by simp)
  unfold zl5
  repeat' split
  all_goals first | exact zcn (by decide) | exact z4m _ _ _ | exact zn7 _ | exact zpv _ _ _ | exact z4n ha.2 hb.2 | exact z4o ha.2 | exact z4p ha.2 hb.2
 ·rename_i a b c
  split
  ·exact z4q (hl a (by simp)).2 (hl b (by simp)).2 (hl c (by simp)).2
  ·exact zcn (by decide)
 ·exact zcn (by decide)
theorem decGo_lt:∀ (s:List UInt8) (acc n m:Nat),acc < 10 ^ n→zfd acc s=some m→m < 10 ^ (n + s.length)
 | [],acc,n,m,h,hm=>by cases hm; simpa using h
 | c :: r,acc,n,m,h,hm=>by
  rw [show zfd acc (c :: r)=if 48 ≤ c.toNat∧c.toNat ≤ 57 then zfd (acc * 10 + (c.toNat - 48)) r else none from rfl] at hm
  split at hm
  ·have:=decGo_lt r _ (n + 1) m (by rw [Nat.pow_succ]; omega) hm
   rw [List.length_cons,show n + (r.length + 1)=n + 1 + r.length by omega]
   exact this
  ·cases hm
theorem zxu (s:List UInt8):FitV (zlj s):=by
 unfold zlj
 split
 ·rename_i m hm
  refine zq8 (zgr ?_)
  unfold zgq at hm
  split at hm
  ·cases hm
  ·split at hm
   ·have h1:=decGo_lt _ 0 0 m (by decide) hm
    have h2:10 ^ (0 + (List.length (_ :: _))) ≤ 10 ^ 18:=Nat.pow_le_pow_right (by omega) (by rw [Nat.zero_add]; assumption)
    have h3:(10:Nat) ^ 18=1000000000000000000:=by decide
    omega
   ·cases hm
 ·exact zcn (by decide)
inductive RefE:Exp→Prop where
 | mk {e:Exp} (h1:zam e.op ≠ -2) (h2:zam e.op < 0 ∨ (e.args.length:Int)=zam e.op) (h3:e.args.length ≤ 4) (h4:e.op=0→Gd e.v∧FitV e.v) (h5:∀ x ∈ e.args,RefE x):RefE e
theorem RefE.h1 {e:Exp}(h:RefE e):zam e.op ≠ -2:=by cases h; assumption
theorem RefE.h2 {e:Exp}(h:RefE e):zam e.op < 0 ∨ (e.args.length:Int)=zam e.op:=by cases h; assumption
theorem RefE.h3 {e:Exp}(h:RefE e):e.args.length ≤ 4:=by cases h; assumption
theorem RefE.h4 {e:Exp}(h:RefE e):e.op=0→Gd e.v∧FitV e.v:=by cases h; assumption
theorem RefE.h5 {e:Exp}(h:RefE e):∀ x ∈ e.args,RefE x:=by cases h; assumption
theorem RefE.gd {e:Exp}(h:RefE e):GdE e:=by
 induction h with
 | @mk e h1 h2 h3 h4 h5 ih =>
  obtain ⟨op,v,occ,attr,l⟩:=e
  exact .mk (fun h=>(h4 h).1) (fun x hx=>ih x hx) (by have:l.length ≤ 4:=h3; omega)
open Go
def zq9:CCode:=match c270.body with
 | .seq _ (.seq _ (.seq _ (.seq _ (.seq _ (.seq (.seq _ (.block _ (.loop _ c))) _)))))=>c
 | _=>.skip
theorem z4r {vs:List (List GVal)}{ts:List (List UInt8)}{e:Exp}(hl:e.args.length ≤ 100)(hc:∀ x ∈ e.args,lcall E 270 [x.arg,.d (.l 1 (zbb vs)),.d (.l 1 (ts.map zc1))] []=some ((zb1 vs ts x).arg,[])){Q:Ex→St→Prop} :
  ∀ (m i:Nat) (out:List GVal),i + m=e.args.length→out.length=i →
  (∀ y tm tl,zdq ((e.args.drop i).map (zb1 vs ts))=some y→zba tm 6 = .ptr 1 0→Q .ret ⟨tm,bxE e :: bxV y :: tl⟩) →
  (∀ tm,zdq ((e.args.drop i).map (zb1 vs ts))=none→zba tm 3 = .ptr 0 0→zba tm 6 = .ptr 1 0→zba tm 10 = .own 2 0 4 (zab (out++(e.args.drop i).map (zb1 vs ts)))→Q (.exit 2) ⟨tm,[bxE e,bxZ,some (.tok 0 4)]⟩) →
  LX E zq9 ⟨[1,2,3,6,10,11],[10],[],[],[(6,3)],true⟩ 3 ⟨[(1,.d (.l 1 (zbb vs))),(2,.d (.l 1 (ts.map zc1))),(3,.ptr 0 0),(6,.ptr 1 0),(10,.own 2 0 4 (zab out)),(11,.d (.i .i64 i))],[bxE e,bxZ,some (.tok 0 4)]⟩ Q:=by
 intro m
 induction m with
 | zero =>
  intro i out hi ho hb hg
  have hn:¬ ((i:Int) < e.args.length):=by omega
  rw [List.drop_eq_nil_of_le (by omega)] at hg
  simp only [Qc,List.append_nil] at hg
  refine zan ?_
  simp only [zae,zbo,zq9,c270,Qf,hn,simprocAttr]
  exact hg _ rfl rfl rfl rfl
 | succ m ih =>
  intro i out hi ho hb hg
  have hy:(i:Int) < e.args.length:=by omega
  have la:i < e.args.length:=by omega
  have h0:(0:Int) ≤ i:=by omega
  have ga:(e.args.map Exp.row)[i]?=some (Exp.row e.args[i]):=by rw [List.getElem?_map,Qd la]; rfl
  have w:IntKind.i64.wrap ((i:Int) + 1)=((i + 1:Nat):Int):=by rw [i64_in (by omega) (by omega)]; omega
  have c1:=hc _ (List.getElem_mem la)
  rw [List.drop_eq_getElem_cons la] at hb hg
  simp only [Qb,zdq] at hb hg
  generalize e.args[i]=x at *
  rw [zds] at ga
  generalize zb1 vs ts x=v at *
  have r2:zbi (out.length + 1) 56=true:=by unfold zbi; exact Ql (by omega)
  have gl:=zad out
  refine zan ?_
  by_cases h7:v.kind=7
  ·rw [if_pos h7] at hb
   simp only [zae,zbo,zq9,c270,Qf,eq_true hy,h0,ga,c1,eq_true h7,simprocAttr]
   exact hb _ _ _ rfl rfl
  ·rw [if_neg h7] at hb hg
   simp only [zae,zbo,zq9,c270,Qf,eq_true hy,h0,ga,c1,h7,gl,r2,z02,w,simprocAttr]
   refine ⟨_,rfl,ih (i + 1) (out++[v]) (by omega) (by simp [ho]) hb (fun tm h1 h3 h4 h7=>hg tm h1 h3 h4 ?_)⟩
   rw [h7,List.append_assoc]; rfl
theorem Zng {op:Int}(h21:op ≠ 21)(h22:op ≠ 22)(h14:op ≠ 14)(a:GVal):ofG op [a]=if op=11 then zej 11 a a else ze3 a:=by
 unfold ofG; rw [if_neg h21,if_neg h22,if_neg h14]
theorem Znh {op:Int}(h21:op ≠ 21)(h22:op ≠ 22)(h14:op ≠ 14)(a b:GVal):ofG op [a,b]=zl5 op a b:=by
 unfold ofG; rw [if_neg h21,if_neg h22,if_neg h14]
theorem Zni {op:Int}(h21:op ≠ 21)(h22:op ≠ 22)(h14:op ≠ 14)(a b c:GVal):ofG op [a,b,c]=if a.kind=6∧b.kind=3 then .mk 6 0 [] (zu6 a.l b c) else zef 4:=by
 unfold ofG; rw [if_neg h21,if_neg h22,if_neg h14]
theorem z0b (Z:ZE E){op:Int}{l:List GVal}(h0:op ≠ 0)(h1:op ≠ 1)(h2:op ≠ 2)(h3:op ≠ 3)(h12:op ≠ 12)(ht:zam op ≠ -2)(hn:zam op < 0 ∨ (l.length:Int)=zam op)(hl:∀ x ∈ l,Gd x∧FitV x) :
  lcall E 282 [.d (.i .i64 op),.d (.l 4 (zab l))] []=some ((ofG op l).arg,[]):=by
 by_cases h21:op=21
 ·have:=Zg2 Z (.inl h21) l
  rw [if_pos h21] at this
  rw [this]; unfold ofG; rw [if_pos h21]
 by_cases h22:op=22
 ·have:=Zg2 Z (.inr h22) l
  rw [if_neg h21] at this
  rw [this]; unfold ofG; rw [if_neg h21,if_pos h22]
 by_cases h14:op=14
 ·subst h14
  rw [z9h Z l]; rfl
 by_cases c1:op=11 ∨ op=15
 ·have tk:zam op=1:=by rcases c1 with rfl | rfl <;> rfl
  obtain ⟨a,rfl⟩:∃ a,l=[a]:=by
   match l,(show l.length=1 by omega) with
   | [a],_=>exact ⟨a,rfl⟩
  have ha:=(hl a (by simp)).1
  rw [Zng h21 h22 h14]
  rcases c1 with rfl | rfl
  ·exact Zgw Z ha
  ·exact Zgx Z ha
 by_cases c3:op=16
 ·have tk:zam op=3:=by subst c3; rfl
  obtain ⟨a,b,c,rfl⟩:∃ a b c,l=[a,b,c]:=by
   match l,(show l.length=3 by omega) with
   | [a,b,c],_=>exact ⟨a,b,c,rfl⟩
  rw [Zni h21 h22 h14]
  subst c3
  exact Zg1 Z (hl a (by simp)).1
 have hr:op > 3∧op < 21:=by
  apply Classical.byContradiction
  intro hq
  apply ht
  unfold zam
  simp only [h0,h1,h2,h3,h21,h22,h14,h12,c3,if_false,if_neg hq]
  rw [if_neg (by omega),if_neg (by omega)]
 have tk:zam op=2:=by
  unfold zam
  simp only [h0,h1,h2,h3,h21,h22,h14,h12,c3,if_false,if_pos hr]
  rw [if_neg (by omega),if_neg (by omega)]
 obtain ⟨a,b,rfl⟩:∃ a b,l=[a,b]:=by
  match l,(show l.length=2 by omega) with
  | [a,b],_=>exact ⟨a,b,rfl⟩
 have ha:=hl a (by simp)
 have hb:=hl b (by simp)
 have hop:(op=4 ∨ op=5 ∨ op=6) ∨ op=7 ∨ op=8 ∨ (op=9 ∨ op=10) ∨ op=13 ∨ (op=17 ∨ op=18) ∨ (op=19 ∨ op=20):=by omega
 rw [Znh h21 h22 h14]
 show lcall E 282 [.d (.i .i64 op),.d (.l 4 [a.row,b.row])] []=_
 rcases hop with h | h | h | h | h | h | h
 ·exact Zgv Z h ha.2.i hb.2.i
 ·subst h; exact Zjv Z ha.1 hb.1
 ·subst h; exact z9f Z ha.1 hb.1
 ·exact z4k Z h ha.1 hb.1
 ·subst h; exact Zgz Z ha.1 hb.1
 ·exact Zg0 Z h ha.1
 ·exact Zgy Z h ha.1 hb.1
theorem z4s {α:Type}{n:Int}{rs:List α}(h:n < 0 ∨ (rs.length:Int)=n):zp6 n rs=rs:=by
 unfold zp6
 split
 ·exact List.take_of_length_le (by omega)
 ·rfl
theorem z0c {vs:List (List GVal)}{ts:List (List UInt8)}{e:Exp}(he:RefE e):zux vs ts e.op e.v e.occ e.attr (e.args.map (zb1 vs ts))=if e.op=0 then e.v else if e.op=1 then zrs vs e.occ e.attr else if e.op=2 ∨ e.op=3 then zh5 ts e.op e.occ else if e.op=12 then zgk (e.args.map (zb1 vs ts)) else zrj e.op (e.args.map (zb1 vs ts)):=by
 have h1:=he.h1
 have h2:=he.h2
 unfold zux
 rw [if_neg (by rw [Qf]; omega),z4s (by rw [Qf]; exact h2)]
theorem z0d (s:List UInt8):szN (zlj s) ≤ 60:=by
 unfold zlj
 split
 ·exact (Zho _).size
 ·exact (zkr (by decide)).size
set_option maxHeartbeats 8000000 in
theorem Zg3 (Z:ZE E)(e270:E 270=some (.code c270)){vs:List (List GVal)}{ts:List (List UInt8)}(hr:GdR vs ts)(hf:∀ e,RefE e→FitV (zb1 vs ts e)) :
  ∀ (n:Nat) (e:Exp),sizeOf e < n→RefE e→lcall E 270 [e.arg,.d (.l 1 (zbb vs)),.d (.l 1 (ts.map zc1))] []=some ((zb1 vs ts e).arg,[]):=by
 intro n
 induction n with
 | zero=>intro e h; omega
 | succ n ih =>
  intro e hs he
  have hc:∀ x ∈ e.args,lcall E 270 [x.arg,.d (.l 1 (zbb vs)),.d (.l 1 (ts.map zc1))] []=some ((zb1 vs ts x).arg,[]):=fun x hx=>ih x (by have:=zl8 hx; omega) (he.h5 x hx)
  have gv:∀ x ∈ e.args,Gd (zb1 vs ts x):=fun x hx=>zof hr (he.h5 x hx).gd
  have ca:=zwo Z.e278 he.h1
  have b7:=zdb Z.e279 7
  have b4:=zdb Z.e279 4
  have hlt:¬ ((e.args.length:Int) < zam e.op):=by rcases he.h2 with h | h <;> omega
  have hev:=zms vs ts e
  rw [z0c he] at hev
  by_cases n0:e.op=0
  ·rw [if_pos n0] at hev
   rw [hev,ze6 (he.h4 n0).1.size]
   refine zat e270 ?_
   simp only [zae,c270,ca,Qf,hlt,eq_true n0,simprocAttr]
  rw [if_neg n0] at hev
  by_cases n1:e.op=1
  ·rw [if_pos n1] at hev
   rw [hev,ze6 (zuy hr _ _).size]
   refine zat e270 ?_
   have lv:(zbb vs).length=vs.length:=by simp [zbb]
   by_cases o1:e.occ < 0
   ·have hb:zrs vs e.occ e.attr=zef 7:=by
     have:atD vs e.occ []=[]:=by unfold atD; rw [if_neg (by omega)]
     unfold zrs; rw [this]; unfold inB; simp; intros; omega
    rw [hb]
    simp only [zae,c270,ca,Qf,hlt,n0,eq_true n1,eq_true o1,b7,simprocAttr]
    first | exact ⟨by rfl,by rfl⟩ | rfl
   have o0:0 ≤ e.occ:=by omega
   by_cases o2:(vs.length:Int) ≤ e.occ
   ·have hb:zrs vs e.occ e.attr=zef 7:=by
     have:atD vs e.occ []=[]:=by unfold atD; rw [if_pos o0,Qe (by omega)]; rfl
     unfold zrs; rw [this]; unfold inB; simp; intros; omega
    rw [hb]
    simp only [zae,c270,ca,Qf,hlt,n0,eq_true n1,o1,lv,eq_true o2,b7,simprocAttr]
    first | exact ⟨by rfl,by rfl⟩ | rfl
   obtain ⟨r,hrr⟩:∃ r,vs[e.occ.toNat]?=some r:=⟨_,Qd (by omega)⟩
   have hat:atD vs e.occ []=r:=by unfold atD; rw [if_pos o0,hrr]; rfl
   have gr:(zbb vs)[e.occ.toNat]?=some [.l 4 (zab r)]:=by unfold zbb; rw [List.getElem?_map,hrr]; rfl
   by_cases a1:e.attr < 0
   ·have hb:zrs vs e.occ e.attr=zef 7:=by
     unfold zrs inB; rw [decide_eq_false (by omega)]; rfl
    rw [hb]
    simp only [zae,c270,ca,Qf,hlt,n0,eq_true n1,o1,lv,o2,eq_true o0,gr,eq_true a1,b7,simprocAttr]
    first | exact ⟨by rfl,by rfl⟩ | rfl
   have a0:0 ≤ e.attr:=by omega
   by_cases a2:(r.length:Int) ≤ e.attr
   ·have hb:zrs vs e.occ e.attr=zef 7:=by
     unfold zrs inB; rw [hat,decide_eq_false (p:=e.attr < _) (by omega),Bool.and_false]; rfl
    rw [hb]
    simp only [zae,c270,ca,Qf,hlt,n0,eq_true n1,o1,lv,o2,eq_true o0,gr,a1,zad,eq_true a2,b7,simprocAttr]
    first | exact ⟨by rfl,by rfl⟩ | rfl
   obtain ⟨v,hv⟩:∃ v,r[e.attr.toNat]?=some v:=⟨_,Qd (by omega)⟩
   have gg:(zab r)[e.attr.toNat]?=some v.row:=by rw [zaw,hv]; rfl
   rw [zas] at gg
   have hb:zrs vs e.occ e.attr=v:=by
    unfold zrs inB; rw [hat,Ql a0,Ql (by omega),Bool.and_self,if_pos rfl]
    unfold atD; rw [if_pos a0,hv]; rfl
   rw [hb]
   simp only [zae,c270,ca,Qf,hlt,n0,eq_true n1,o1,lv,o2,eq_true o0,gr,a1,zad,a2,eq_true a0,gg,simprocAttr]
   first | exact ⟨by rfl,by rfl,by rfl⟩ | exact ⟨by rfl,by rfl⟩ | rfl
  rw [if_neg n1] at hev
  by_cases n2:e.op=2 ∨ e.op=3
  ·rw [if_pos n2] at hev
   rw [hev]
   refine zat e270 ?_
   have lt:(ts.map zc1).length=ts.length:=Qf ..
   have n3:¬ e.op=2→e.op=3:=fun h=>n2.resolve_left h
   have hbad:inB ts e.occ=false→zuw (zh5 ts e.op e.occ)=zef 7:=fun h=>by
    unfold zh5; rw [h]; exact ze6 (zkr (by decide)).size
   by_cases o1:e.occ < 0
   ·rw [hbad (by unfold inB; rw [decide_eq_false (by omega)]; rfl)]
    by_cases h2:e.op=2
    ·simp only [zae,c270,ca,Qf,hlt,n0,n1,eq_true h2,eq_true o1,b7,simprocAttr]
    ·simp only [zae,c270,ca,Qf,hlt,n0,n1,h2,eq_true (n3 h2),eq_true o1,b7,simprocAttr]
   have o0:0 ≤ e.occ:=by omega
   by_cases o2:(ts.length:Int) ≤ e.occ
   ·rw [hbad (by unfold inB; rw [decide_eq_false (p:=e.occ < _) (by omega),Bool.and_false])]
    by_cases h2:e.op=2
    ·simp only [zae,c270,ca,Qf,hlt,n0,n1,eq_true h2,o1,eq_true o2,b7,simprocAttr]
    ·simp only [zae,c270,ca,Qf,hlt,n0,n1,h2,eq_true (n3 h2),o1,eq_true o2,b7,simprocAttr]
   obtain ⟨r,hrr⟩:∃ r,ts[e.occ.toNat]?=some r:=⟨_,Qd (by omega)⟩
   have hat:atD ts e.occ []=r:=by unfold atD; rw [if_pos o0,hrr]; rfl
   have gr:(ts.map zc1)[e.occ.toNat]?=some [.s r]:=by rw [List.getElem?_map,hrr]; rfl
   have hin:inB ts e.occ=true:=by unfold inB; rw [Ql o0,Ql (by omega)]; rfl
   by_cases h2:e.op=2
   ·have ht:zh5 ts e.op e.occ = .mk 3 0 r []:=by unfold zh5; rw [hin,if_pos rfl,if_pos h2,hat]
    rw [ht]
    have lr:r.length ≤ 1000000:=hr.texts r (List.mem_of_getElem? hrr)
    have cf:lcall E 280 [.agg [.d (.i .i64 3),.d (.i .i64 0),.d (.s r),.d (.l 4 [])]] []=some ((zuw (.mk 3 0 r [])).arg,[]):=z1e Z.e280 Z.e279 Z.e113 (v:=.mk 3 0 r []) (zih (by simp) (by simp)) (by rw [zgt]; simp [gF,szL]; omega)
    simp only [zae,c270,ca,Qf,hlt,n0,n1,eq_true h2,o1,o2,eq_true o0,gr,cf,simprocAttr]
   ·have ht:zh5 ts e.op e.occ=zlj r:=by unfold zh5; rw [hin,if_pos rfl,if_neg h2,hat]; rfl
    rw [ht,ze6 (z0d r)]
    have cn:=zxt Z.e281 Z.e279 r
    simp only [zae,c270,ca,Qf,hlt,n0,n1,h2,eq_true (n3 h2),o1,o2,eq_true o0,gr,cn,simprocAttr]
  rw [if_neg n2] at hev
  have n2':¬ e.op=2:=fun h=>n2 (.inl h)
  have n3':¬ e.op=3:=fun h=>n2 (.inr h)
  by_cases n12:e.op=12
  ·rw [if_pos n12] at hev
   have h2:=he.h2
   rw [n12] at h2
   obtain ⟨c,a,b,hargs⟩:∃ c a b,e.args=[c,a,b]:=by
    have:e.args.length=3:=by rw [show zam 12=3 from rfl] at h2; omega
    match e.args,this with
    | [c,a,b],_=>exact ⟨c,a,b,rfl⟩
   have k1:=hc c (by rw [hargs]; simp)
   have k2:=hc a (by rw [hargs]; simp)
   have k3:=hc b (by rw [hargs]; simp)
   have g1:=gv c (by rw [hargs]; simp)
   have g2:=gv a (by rw [hargs]; simp)
   have g3:=gv b (by rw [hargs]; simp)
   have hlt3:¬ ((([c,a,b]:List Exp).length:Int) < zam e.op):=by rw [← hargs]; exact hlt
   rw [hev,hargs]
   show lcall E 270 [.agg [.d (.i .i64 e.op),.d (.i .i64 e.v.kind),.d (.i .i64 e.v.i),.d (.s e.v.s),.d (.l 4 (zab e.v.l)),.d (.i .i64 e.occ),.d (.i .i64 e.attr),.d (.l 8 (e.args.map Exp.row))],_,_] []=_
   rw [hargs]
   rw [show (12:Int)=e.op from n12.symm] at h2
   have tk:zam e.op=3:=by rw [n12]; rfl
   rw [tk] at ca
   simp only [Qb,Qc,zgk,zds]
   refine zat e270 ?_
   generalize zb1 vs ts c=v at *
   by_cases k7:v.kind=7
   ·rw [if_pos k7,ze6 g1.size]
    simp only [zae,c270,ca,n0,n1,n2',n3',eq_true n12,k1,eq_true k7,simprocAttr]
    skip
   rw [if_neg k7]
   by_cases kk:v.kind=2
   ·rw [if_pos kk]
    by_cases i0:v.i=0
    ·rw [if_pos i0,ze6 g3.size]
     simp only [zae,c270,ca,n0,n1,n2',n3',eq_true n12,k1,k7,eq_true kk,eq_true i0,k3,simprocAttr]
     skip
    ·rw [if_neg i0,ze6 g2.size]
     simp only [zae,c270,ca,n0,n1,n2',n3',eq_true n12,k1,k7,eq_true kk,i0,k2,simprocAttr]
     skip
   ·rw [if_neg kk,ze6 (zkr (by decide)).size]
    simp only [zae,c270,ca,n0,n1,n2',n3',eq_true n12,k1,k7,kk,b4,simprocAttr]
    skip
  rw [if_neg n12] at hev
  refine zat e270 ?_
  simp only [zae,c270,ca,Qf,hlt,n0,n1,n2',n3',n12,simprocAttr]
  have hl4:=he.h3
  refine z4r (by omega) hc e.args.length 0 [] (by omega) rfl (fun y tm tl hy t6=>?_) (fun tm hn t3 t6 t10=>?_)
  ·rw [List.drop_zero] at hy
   have hy':zrj e.op (e.args.map (zb1 vs ts))=y:=by unfold zrj; rw [hy]
   obtain ⟨z,hz,hzy⟩:=List.mem_map.1 (zdy hy)
   rw [hev,hy',ze6 (by rw [← hzy]; exact (gv z hz).size)]
   simp only [zae,t6,simprocAttr]
  ·rw [List.drop_zero] at hn t10
   rw [List.nil_append] at t10
   have hy':zrj e.op (e.args.map (zb1 vs ts))=ofG e.op (e.args.map (zb1 vs ts)):=by unfold zrj; rw [hn]
   have hin:∀ x ∈ e.args.map (zb1 vs ts),Gd x∧FitV x:=fun x hx=>by
    obtain ⟨z,hz,rfl⟩:=List.mem_map.1 hx
    exact ⟨gv z hz,hf z (he.h5 z hz)⟩
   have cp:=z0b Z n0 n1 n2' n3' n12 he.h1 (by rw [Qf]; exact he.h2) hin
   have ofs:=zwn (op:=e.op) (l:=e.args.map (zb1 vs ts)) (fun x hx=>(hin x hx).1.size) (by rw [Qf]; omega)
   have cf:=z1e Z.e280 Z.e279 Z.e113 (zeh _ ofs) (by omega)
   rw [hev,hy']
   simp only [zae,t3,t6,t10,cp,cf,simprocAttr]
open Go
def z0e:CCode:=match c175.body with
 | .seq _ (.seq _ (.seq _ (.seq (.seq _ (.block _ (.loop _ c))) _)))=>c
 | _=>.skip
theorem RefE.leaf {e:Exp}(h:RefE e)(h1:e.op=1):e.args=[]:=by
 have:=h.h2
 rw [h1] at this
 rw [show zam 1=0 from rfl] at this
 exact List.length_eq_zero_iff.1 (by omega)
inductive Lt5:Nat→Exp→Prop where
 | mk {d:Nat} {e:Exp} (h:e.args.length ≤ 5) (ha:∀ x ∈ e.args,Lt5 d x):Lt5 (d + 1) e
theorem zv9 (n:Nat):∀ (l:List Exp),(∀ x ∈ l,(zgv x).length ≤ n)→(zcd l).length ≤ l.length * n
 | [],_=>by simp [zcd]
 | x :: r,h=>by
  have h1:=h x (List.mem_cons_self ..)
  have h2:=zv9 n r fun y hy=>h y (List.mem_cons_of_mem _ hy)
  simp only [zcd,Qg,List.length_cons,Nat.succ_mul]
  omega
theorem z4t:∀ {d:Nat} {e:Exp},Lt5 d e→(zgv e).length ≤ 6 ^ d:=by
 intro d e h
 induction h with
 | @mk d e h ha ih =>
  have h1:=zv9 (6 ^ d) e.args ih
  have h2:e.args.length * 6 ^ d ≤ 5 * 6 ^ d:=Nat.mul_le_mul_right _ h
  have h3:0 < 6 ^ d:=Nat.pow_pos (by omega)
  rw [zmv,Qg,Nat.pow_succ]
  split
  ·simp only [List.length_cons,List.length_nil]; omega
  ·simp only [List.length_nil]; omega
theorem z0f {α:Type}{P:α→Prop}{l:List α}{i:Int}{z:α}(h:∀ x ∈ l,P x)(hz:P z):P (atD l i z):=by
 unfold atD
 split
 ·cases hg:l[i.toNat]? with
  | none=>exact hz
  | some x=>exact h x (List.mem_of_getElem? hg)
 ·exact hz
theorem z0g {vs:List (List GVal)}{ts:List (List UInt8)}(hr:GdR vs ts)(hf:∀ l ∈ vs,∀ v ∈ l,FitV v):∀ (n:Nat) (e:Exp),sizeOf e < n→RefE e→FitV (zb1 vs ts e):=by
 intro n
 induction n with
 | zero=>intro e h; omega
 | succ n ih =>
  intro e hs he
  have hx:∀ x ∈ e.args.map (zb1 vs ts),Gd x∧FitV x:=fun x hx=>by
   obtain ⟨y,hy,rfl⟩:=List.mem_map.1 hx
   exact ⟨zof hr (he.h5 y hy).gd,ih y (by have:=zl8 hy; omega) (he.h5 y hy)⟩
  rw [zms,z0c he]
  refine z4l ?_
  split
  ·rename_i h; exact (he.h4 h).2
  split
  ·unfold zrs
   split
   ·exact z0f (P:=FitV) (fun v hv=>z0f (P:=fun l:List GVal=>∀ v ∈ l,FitV v) hf (fun _ h=>by cases h) v hv) (zh3 (by decide))
   ·exact zcn (by decide)
  split
  ·unfold zh5
   split
   ·split
    ·exact zh3 (by decide)
    ·exact zxu _
   ·exact zcn (by decide)
  generalize e.args.map (zb1 vs ts)=rs at hx
  split
  ·unfold zgk
   split
   ·rename_i c a b r
    repeat' split
    ·exact (hx c (by simp)).2
    ·exact (hx b (by simp)).2
    ·exact (hx a (by simp)).2
    ·exact zcn (by decide)
   ·exact zcn (by decide)
  ·unfold zrj
   split
   ·rename_i y hy
    exact (hx y (zdy hy)).2
   ·exact z9i hx
open Go
def zdn:Nat→GVal→Bool
 | 0,_=>false
 | d + 1,v=>decide (v.l.length ≤ 12) && decide (v.s.length ≤ 2000) && v.l.all (zdn d)
def zra:CCode:=match zw4.body with
 | .seq _ (.seq _ (.seq (.seq _ (.block _ (.loop _ c))) _))=>c
 | _=>.skip
theorem z4u {v:GVal}(hl:v.l.length ≤ 12){d:Nat}(hd:d ≤ 100)(ih:∀ x,lcall E 107 [x.arg,.d (.i .i64 d)] []=some (.d (.b (zdn d x)),[])){Q:Ex→St→Prop}
  (hx:∀ tm hp,v.l.all (zdn d)=true→Q (.exit 0) ⟨tm,hp⟩) (hr:∀ tm hp,v.l.all (zdn d)=false→zba tm 4 = .d (.b false)→Q .ret ⟨tm,hp⟩) :
  ∀ (m i:Nat),i + m=v.l.length→(v.l.all (zdn d)=(v.l.drop i).all (zdn d)) →
   LX E zra ⟨[1,2,5],[],[],[],[],true⟩ 1 ⟨[(1,.d (.i .i64 ((d + 1:Nat):Int))),(2,.ptr 0 0),(5,.d (.i .i64 i))],[bxV v]⟩ Q:=by
 intro m
 induction m with
 | zero =>
  intro i hi hall
  have hn:¬ ((i:Int) < v.l.length):=by omega
  refine zan ?_
  simp only [zae,zbo,zra,zw4,zad,hn,simprocAttr]
  exact hx _ _ (by rw [hall,List.drop_of_length_le (by omega)]; rfl)
 | succ m ihm =>
  intro i hi hall
  have hy:(i:Int) < v.l.length:=by omega
  have la:i < v.l.length:=by omega
  have h0:(0:Int) ≤ i:=by omega
  have ga:(zab v.l)[i]?=some (GVal.row v.l[i]):=by rw [zaw,Qd la]; rfl
  have w:IntKind.i64.wrap ((i:Int) + 1)=((i + 1:Nat):Int):=by rw [i64_in (by omega) (by omega)]; omega
  have wd:IntKind.i64.wrap (((d + 1:Nat):Int) - 1)=(d:Int):=by rw [i64_in (by omega) (by omega)]; omega
  have hc:=ih v.l[i]
  rw [List.drop_eq_getElem_cons la,List.all_cons] at hall
  generalize v.l[i]=x at *
  rw [zas] at ga
  refine zan ?_
  cases hv:zdn d x with
  | true =>
   rw [hv] at hc
   rw [hv,Bool.true_and] at hall
   simp only [zae,zbo,zra,zw4,zad,eq_true hy,eq_true h0,ga,wd,hc,w,simprocAttr]
   exact ⟨_,rfl,ihm (i + 1) (by omega) hall⟩
  | false =>
   rw [hv] at hc
   rw [hv,Bool.false_and] at hall
   simp only [zae,zbo,zra,zw4,zad,eq_true hy,eq_true h0,ga,wd,hc,w,simprocAttr]
   exact hr _ _ hall rfl
theorem zs9 (h107:E 107=some (.code zw4)):∀ (d:Nat),d ≤ 100→∀ (v:GVal),lcall E 107 [v.arg,.d (.i .i64 d)] []=some (.d (.b (zdn d v)),[])
 | 0,_,v=>by
  have h1:((0:Nat):Int) < 1:=by omega
  refine zat h107 ?_
  simp only [zae,zw4,zdn,simprocAttr]
 | d + 1,hd,v=>by
  have h1:¬ (((d + 1:Nat):Int) < 1):=by omega
  have ih:=zs9 h107 d (by omega)
  refine zat h107 ?_
  by_cases k1:(12:Int) < v.l.length
  ·have e:zdn (d + 1) v=false:=by simp only [zdn]; rw [decide_eq_false (by omega)]; rfl
   rw [e]
   simp only [zae,zw4,h1,zad,eq_true k1,simprocAttr]
  by_cases k2:(2000:Int) < v.s.length
  ·have e:zdn (d + 1) v=false:=by simp only [zdn]; rw [decide_eq_false (p:=v.s.length ≤ 2000) (by omega)]; simp
   rw [e]
   simp only [zae,zw4,h1,zad,k1,eq_true k2,simprocAttr]
  have e:zdn (d + 1) v=v.l.all (zdn d):=by simp only [zdn]; rw [Ql (by omega),decide_eq_true (p:=v.s.length ≤ 2000) (by omega)]; rfl
  rw [e]
  simp only [zae,zw4,h1,zad,k1,k2,simprocAttr]
  refine z4u (by omega) (by omega) ih (fun tm hp ha=>?_) (fun tm hp ha t4=>?_) v.l.length 0 (by omega) rfl
  ·rw [ha]
   simp only [zae,↓reduceIte]
  ·rw [ha]
   simp only [zae,t4]
def lb:Nat→Nat
 | 0=>0
 | d + 1=>126 + 12 * lb d
theorem zn8:∀ (d:Nat) (v:GVal),zdn d v=true→Small v∧szN v ≤ lb d
 | 0,v,h=>by cases h
 | d + 1,v,h=>by
  simp only [zdn,Qi,Qh,List.all_eq_true] at h
  obtain ⟨⟨h1,h2⟩,h3⟩:=h
  refine ⟨.mk (by omega) (fun x hx=>(zn8 d x (h3 x hx)).1), ?_⟩
  have hs:∀ l:List GVal,(∀ x ∈ l,szN x ≤ lb d)→szL l ≤ l.length * lb d:=by
   intro l
   induction l with
   | nil=>intro _; simp [szL]
   | cons x r ih =>
    intro h
    have h5:=ih (fun y hy=>h y (by simp [hy]))
    have h6:=h x (by simp)
    simp only [szL,List.length_cons,Nat.add_mul]; omega
  have h4:=hs v.l (fun x hx=>(zn8 d x (h3 x hx)).2)
  have h5:v.l.length * lb d ≤ 12 * lb d:=Nat.mul_le_mul_right _ h1
  rw [zgt]
  simp only [lb]
  omega
def zdf:Nat→Exp→Bool
 | 0,_=>false
 | d + 1,e=>decide (e.args.length ≤ 5) && zdn 4 e.v && e.args.all (zdf d)
def zrb:CCode:=match zyc.body with
 | .seq _ (.seq _ (.seq (.seq _ (.block _ (.loop _ c))) _))=>c
 | _=>.skip
theorem z4v {e:Exp}(hl:e.args.length ≤ 5){d:Nat}(hd:d ≤ 100)(ih:∀ x,lcall E 265 [x.arg,.d (.i .i64 d)] []=some (.d (.b (zdf d x)),[])){Q:Ex→St→Prop}
  (hx:∀ tm hp,e.args.all (zdf d)=true→Q (.exit 0) ⟨tm,hp⟩) (hr:∀ tm hp,e.args.all (zdf d)=false→zba tm 4 = .d (.b false)→Q .ret ⟨tm,hp⟩) :
  ∀ (m i:Nat),i + m=e.args.length→(e.args.all (zdf d)=(e.args.drop i).all (zdf d)) →
   LX E zrb ⟨[1,2,5],[],[],[],[],true⟩ 1 ⟨[(1,.d (.i .i64 ((d + 1:Nat):Int))),(2,.ptr 0 0),(5,.d (.i .i64 i))],[bxE e]⟩ Q:=by
 intro m
 induction m with
 | zero =>
  intro i hi hall
  have hn:¬ ((i:Int) < e.args.length):=by omega
  refine zan ?_
  simp only [zae,zbo,zrb,zyc,Qf,hn,simprocAttr]
  exact hx _ _ (by rw [hall,List.drop_of_length_le (by omega)]; rfl)
 | succ m ihm =>
  intro i hi hall
  have hy:(i:Int) < e.args.length:=by omega
  have la:i < e.args.length:=by omega
  have h0:(0:Int) ≤ i:=by omega
  have ga:(e.args.map Exp.row)[i]?=some (Exp.row e.args[i]):=by rw [List.getElem?_map,Qd la]; rfl
  have w:IntKind.i64.wrap ((i:Int) + 1)=((i + 1:Nat):Int):=by rw [i64_in (by omega) (by omega)]; omega
  have wd:IntKind.i64.wrap (((d + 1:Nat):Int) - 1)=(d:Int):=by rw [i64_in (by omega) (by omega)]; omega
  have hc:=ih e.args[i]
  rw [List.drop_eq_getElem_cons la,List.all_cons] at hall
  generalize e.args[i]=x at *
  rw [zds] at ga
  refine zan ?_
  cases hv:zdf d x with
  | true =>
   rw [hv] at hc
   rw [hv,Bool.true_and] at hall
   simp only [zae,zbo,zrb,zyc,Qf,eq_true hy,eq_true h0,ga,wd,hc,w,simprocAttr]
   exact ⟨_,rfl,ihm (i + 1) (by omega) hall⟩
  | false =>
   rw [hv] at hc
   rw [hv,Bool.false_and] at hall
   simp only [zae,zbo,zrb,zyc,Qf,eq_true hy,eq_true h0,ga,wd,hc,w,simprocAttr]
   exact hr _ _ hall rfl
theorem zta (h265:E 265=some (.code zyc))(h107:E 107=some (.code zw4)):∀ (d:Nat),d ≤ 100→∀ (e:Exp),lcall E 265 [e.arg,.d (.i .i64 d)] []=some (.d (.b (zdf d e)),[])
 | 0,_,e=>by
  have h1:((0:Nat):Int) < 1:=by omega
  refine zat h265 ?_
  simp only [zae,zyc,zdf,simprocAttr]
 | d + 1,hd,e=>by
  have h1:¬ (((d + 1:Nat):Int) < 1):=by omega
  have ih:=zta h265 h107 d (by omega)
  have cv:lcall E 107 [e.v.arg,.d (.i .i64 4)] []=some (.d (.b (zdn 4 e.v)),[]):=zs9 h107 4 (by omega) e.v
  refine zat h265 ?_
  by_cases k1:(5:Int) < e.args.length
  ·have h:zdf (d + 1) e=false:=by simp only [zdf]; rw [decide_eq_false (by omega)]; rfl
   rw [h]
   simp only [zae,zyc,h1,Qf,eq_true k1,simprocAttr]
  cases hv:zdn 4 e.v with
  | false =>
   rw [hv] at cv
   have h:zdf (d + 1) e=false:=by simp only [zdf]; rw [hv]; simp
   rw [h]
   simp only [zae,zyc,h1,Qf,k1,cv,simprocAttr]
  | true =>
   rw [hv] at cv
   have h:zdf (d + 1) e=e.args.all (zdf d):=by simp only [zdf]; rw [hv,Ql (by omega)]; rfl
   rw [h]
   simp only [zae,zyc,h1,Qf,k1,cv,simprocAttr]
   refine z4v (by omega) (by omega) ih (fun tm hp ha=>?_) (fun tm hp ha t4=>?_) e.args.length 0 (by omega) rfl
   ·rw [ha]
    simp only [zae,↓reduceIte]
   ·rw [ha]
    simp only [zae,t4]
theorem ztb:∀ (d:Nat) (e:Exp),zdf d e=true→Lt5 d e
 | 0,e,h=>by cases h
 | d + 1,e,h=>by
  simp only [zdf,Qi,Qh,List.all_eq_true] at h
  exact .mk h.1.1 fun x hx=>ztb d x (h.2 x hx)
theorem ztc:∀ (d:Nat) (e:Exp),zdf d e=true→AllV (fun v=>Small v∧Fit v) e
 | 0,e,h=>by cases h
 | d + 1,e,h=>by
  simp only [zdf,Qi,Qh,List.all_eq_true] at h
  refine .mk (fun _=>?_) (fun x hx=>ztc d x (h.2 x hx)) (by omega)
  obtain ⟨k1,k2⟩:=zn8 4 e.v h.1.2
  exact ⟨k1,Nat.le_trans k2 (by decide)⟩
open Go
def mT1:List CO:=match zfr.body with
 | .seq _ (.seq _ (.seq _ (.seq _ (.seq (.region _ l) _))))=>l
 | _=>[]
def mT2:CCode:=match zfr.body with
 | .seq _ (.seq _ (.seq _ (.seq _ (.seq _ (.seq c _)))))=>c
 | _=>.skip
def mT3:List CO:=match zfr.body with
 | .seq _ (.seq _ (.seq _ (.seq _ (.seq _ (.seq _ (.seq (.region _ l) _))))))=>l
 | _=>[]
def mT4:List CO:=match zfr.body with
 | .seq _ (.seq _ (.seq _ (.seq _ (.seq _ (.seq _ (.seq _ (.seq (.region _ l) _)))))))=>l
 | _=>[]
theorem m1 {e:Exp}{R:CCode}{Q:Ex→St→Prop}(h:∀ tm,zba tm 2 = .ptr 0 0→zba tm 8 = .d (.b (zhf e.v))→WX E R ⟨tm,[bxE e]⟩ Q){tm:List (Nat × V)}(t2:zba tm 2 = .ptr 0 0):WX E (.seq (.region false mT1) R) ⟨tm,[bxE e]⟩ (Q):=by
 by_cases k1:e.v.kind=0
 ·by_cases k2:e.v.i=0
  ·by_cases k3:e.v.s=[]
   ·by_cases k4:(e.v.l.length:Int)=0
    ·have hz:zhf e.v=true:=by unfold zhf; rw [Ql k1,Ql k2,Ql k3,Ql k4]; rfl
     simp only [zae,mT1,zfr,t2,eq_true k1,eq_true k2,eq_true k3,eq_true k4,zad,simprocAttr]
     exact h _ t2 (by rw [hz]; rfl)
    ·have hz:zhf e.v=false:=by unfold zhf; rw [Ql k1,Ql k2,Ql k3,decide_eq_false k4]; rfl
     simp only [zae,mT1,zfr,t2,eq_true k1,eq_true k2,eq_true k3,k4,zad,simprocAttr]
     exact h _ t2 (by rw [hz]; rfl)
   ·have hz:zhf e.v=false:=by unfold zhf; rw [Ql k1,Ql k2,decide_eq_false k3]; rfl
    simp only [zae,mT1,zfr,t2,eq_true k1,eq_true k2,k3,simprocAttr]
    exact h _ t2 (by rw [hz]; rfl)
  ·have hz:zhf e.v=false:=by unfold zhf; rw [Ql k1,decide_eq_false k2]; rfl
   simp only [zae,mT1,zfr,t2,eq_true k1,k2,simprocAttr]
   exact h _ t2 (by rw [hz]; rfl)
 ·have hz:zhf e.v=false:=by unfold zhf; rw [decide_eq_false k1]; rfl
  simp only [zae,mT1,zfr,t2,k1,simprocAttr]
  exact h _ t2 (by rw [hz]; rfl)
def vOk (mv:GVal→Bool)(e:Exp):Bool:=if e.op=0 then mv e.v && decide (e.v.kind ≠ 7) else zhf e.v
theorem m2 {e:Exp}{mv:GVal→Bool}(hv:e.op=0→lcall E 110 [e.v.arg] []=some (.d (.b (mv e.v)),[])){R:CCode}{Q:Ex→St→Prop}(h:∀ tm,zba tm 2 = .ptr 0 0→zba tm 8 = .d (.b (vOk mv e))→WX E R ⟨tm,[bxE e]⟩ Q){tm:List (Nat × V)}(t2:zba tm 2 = .ptr 0 0)(t8:zba tm 8 = .d (.b (zhf e.v))):WX E (.seq mT2 R) ⟨tm,[bxE e]⟩ (Q):=by
 by_cases k1:e.op=0
 ·have c1:lcall E 110 [.agg [.d (.i .i64 e.v.kind),.d (.i .i64 e.v.i),.d (.s e.v.s),.d (.l 4 (zab e.v.l))]] []=some (.d (.b (mv e.v)),[]):=hv k1
  cases hm:mv e.v with
  | false =>
   rw [hm] at c1
   have hz:vOk mv e=false:=by unfold vOk; rw [if_pos k1,hm]; rfl
   simp only [zae,mT2,zfr,t2,eq_true k1,c1,simprocAttr]
   exact h _ t2 (by rw [hz]; rfl)
  | true =>
   rw [hm] at c1
   by_cases k7:e.v.kind=7
   ·have hz:vOk mv e=false:=by unfold vOk; rw [if_pos k1,hm]; simp [k7]
    have k7':(e.v.kind != 7)=false:=by simp [k7]
    simp only [zae,mT2,zfr,t2,eq_true k1,c1,simprocAttr]
    exact h _ t2 (by rw [hz]; show V.d (D.b (decide ¬e.v.kind=7))=_; simp [k7])
   ·have hz:vOk mv e=true:=by unfold vOk; rw [if_pos k1,hm]; simp [k7]
    have k7':(e.v.kind != 7)=true:=by simp [k7]
    simp only [zae,mT2,zfr,t2,eq_true k1,c1,simprocAttr]
    exact h _ t2 (by rw [hz]; show V.d (D.b (decide ¬e.v.kind=7))=_; simp [k7])
 ·have hz:vOk mv e=zhf e.v:=by unfold vOk; rw [if_neg k1]
  simp only [zae,mT2,zfr,t2,k1,simprocAttr]
  exact h _ t2 (by rw [hz]; exact t8)
def zkm (op:Int):Bool:=decide (op=1) || decide (op=2) || decide (op=3)
theorem m3 {e:Exp}{b:Bool}{R:CCode}{Q:Ex→St→Prop}(h:∀ tm,zba tm 2 = .ptr 0 0→zba tm 8 = .d (.b b)→zba tm 9 = .d (.b (zkm e.op))→WX E R ⟨tm,[bxE e]⟩ Q){tm:List (Nat × V)}(t2:zba tm 2 = .ptr 0 0)(t8:zba tm 8 = .d (.b b)):WX E (.seq (.region false mT3) R) ⟨tm,[bxE e]⟩ (Q):=by
 by_cases k1:e.op=1
 ·have hz:zkm e.op=true:=by simp [zkm,k1]
  simp only [zae,mT3,zfr,t2,eq_true k1,simprocAttr]
  exact h _ t2 t8 (by rw [hz]; rfl)
 by_cases k2:e.op=2
 ·have hz:zkm e.op=true:=by simp [zkm,k2]
  simp only [zae,mT3,zfr,t2,k1,eq_true k2,simprocAttr]
  exact h _ t2 t8 (by rw [hz]; rfl)
 by_cases k3:e.op=3
 ·have hz:zkm e.op=true:=by simp [zkm,k3]
  simp only [zae,mT3,zfr,t2,k1,k2,eq_true k3,simprocAttr]
  exact h _ t2 t8 (by rw [hz]; rfl)
 ·have hz:zkm e.op=false:=by simp [zkm,k1,k2,k3]
  simp only [zae,mT3,zfr,t2,k1,k2,k3,simprocAttr]
  exact h _ t2 t8 (by rw [hz]; rfl)
def zky (b:Bool)(e:Exp):Bool:=b && (decide (0 ≤ e.occ) && (decide (e.occ ≤ 5) && ((zkm e.op || decide (e.occ=0)) && (decide (0 ≤ e.attr) && (decide (e.attr < 8) && (decide (e.op=1) || decide (e.attr=0)))))))
theorem m4 {e:Exp}{b:Bool}{R:CCode}{Q:Ex→St→Prop}(h:∀ tm,zba tm 4 = .d (.b (zky b e))→WX E R ⟨tm,[bxE e]⟩ Q){tm:List (Nat × V)}(t2:zba tm 2 = .ptr 0 0)(t8:zba tm 8 = .d (.b b))(t9:zba tm 9 = .d (.b (zkm e.op))):WX E (.seq (.region false mT4) R) ⟨tm,[bxE e]⟩ (Q):=by
 cases b with
 | false =>
  have hz:zky false e=false:=rfl
  simp only [zae,mT4,zfr,t8,simprocAttr]
  exact h _ (by rw [hz]; rfl)
 | true =>
 by_cases k1:0 ≤ e.occ
 case neg =>
  have hz:zky true e=false:=by unfold zky; rw [decide_eq_false k1]; rfl
  simp only [zae,mT4,zfr,t2,t8,k1,simprocAttr]
  exact h _ (by rw [hz]; rfl)
 by_cases k2:e.occ ≤ 5
 case neg =>
  have hz:zky true e=false:=by unfold zky; rw [Ql k1,decide_eq_false k2]; rfl
  simp only [zae,mT4,zfr,t2,t8,eq_true k1,k2,simprocAttr]
  exact h _ (by rw [hz]; rfl)
 cases ho:zkm e.op with
 | true =>
  rw [ho] at t9
  by_cases k4:0 ≤ e.attr
  case neg =>
   have hz:zky true e=false:=by unfold zky; rw [Ql k1,Ql k2,ho,decide_eq_false k4]; rfl
   simp only [zae,mT4,zfr,t2,t8,t9,eq_true k1,eq_true k2,k4,simprocAttr]
   exact h _ (by rw [hz]; rfl)
  by_cases k5:e.attr < 8
  case neg =>
   have hz:zky true e=false:=by unfold zky; rw [Ql k1,Ql k2,ho,Ql k4,decide_eq_false k5]; rfl
   simp only [zae,mT4,zfr,t2,t8,t9,eq_true k1,eq_true k2,eq_true k4,k5,simprocAttr]
   exact h _ (by rw [hz]; rfl)
  by_cases k6:e.op=1
  ·have hz:zky true e=true:=by unfold zky; rw [Ql k1,Ql k2,ho,Ql k4,Ql k5,Ql k6]; rfl
   simp only [zae,mT4,zfr,t2,t8,t9,eq_true k1,eq_true k2,eq_true k4,eq_true k5,eq_true k6,simprocAttr]
   exact h _ (by rw [hz]; rfl)
  by_cases k7:e.attr=0
  ·have hz:zky true e=true:=by unfold zky; rw [Ql k1,Ql k2,ho,Ql k4,Ql k5,Ql k7]; simp
   simp only [zae,mT4,zfr,t2,t8,t9,eq_true k1,eq_true k2,eq_true k4,eq_true k5,k6,eq_true k7,simprocAttr]
   exact h _ (by rw [hz]; rfl)
  ·have hz:zky true e=false:=by unfold zky; rw [Ql k1,Ql k2,ho,Ql k4,Ql k5,decide_eq_false k6,decide_eq_false k7]; rfl
   simp only [zae,mT4,zfr,t2,t8,t9,eq_true k1,eq_true k2,eq_true k4,eq_true k5,k6,k7,simprocAttr]
   exact h _ (by rw [hz]; rfl)
 | false =>
  rw [ho] at t9
  by_cases k3:e.occ=0
  case neg =>
   have hz:zky true e=false:=by unfold zky; rw [Ql k1,Ql k2,ho,decide_eq_false k3]; rfl
   simp only [zae,mT4,zfr,t2,t8,t9,eq_true k1,eq_true k2,k3,simprocAttr]
   exact h _ (by rw [hz]; rfl)
  by_cases k4:0 ≤ e.attr
  case neg =>
   have hz:zky true e=false:=by unfold zky; rw [Ql k1,Ql k2,ho,Ql k3,decide_eq_false k4]; rfl
   simp only [zae,mT4,zfr,t2,t8,t9,eq_true k1,eq_true k2,eq_true k3,k4,simprocAttr]
   exact h _ (by rw [hz]; rfl)
  by_cases k5:e.attr < 8
  case neg =>
   have hz:zky true e=false:=by unfold zky; rw [Ql k1,Ql k2,ho,Ql k3,Ql k4,decide_eq_false k5]; rfl
   simp only [zae,mT4,zfr,t2,t8,t9,eq_true k1,eq_true k2,eq_true k3,eq_true k4,k5,simprocAttr]
   exact h _ (by rw [hz]; rfl)
  have k6:¬ e.op=1:=fun h1=>by simp [zkm,h1] at ho
  by_cases k7:e.attr=0
  ·have hz:zky true e=true:=by unfold zky; rw [Ql k1,Ql k2,ho,Ql k3,Ql k4,Ql k5,Ql k7]; simp
   simp only [zae,mT4,zfr,t2,t8,t9,eq_true k1,eq_true k2,eq_true k3,eq_true k4,eq_true k5,k6,eq_true k7,simprocAttr]
   exact h _ (by rw [hz]; rfl)
  ·have hz:zky true e=false:=by unfold zky; rw [Ql k1,Ql k2,ho,Ql k3,Ql k4,Ql k5,decide_eq_false k6,decide_eq_false k7]; rfl
   simp only [zae,mT4,zfr,t2,t8,t9,eq_true k1,eq_true k2,eq_true k3,eq_true k4,eq_true k5,k6,k7,simprocAttr]
   exact h _ (by rw [hz]; rfl)
theorem z0h (mv:GVal→Bool)(e:Exp):zky (vOk mv e) e=ze2 mv e.op e.v e.occ e.attr:=by
 unfold zky vOk ze2 zkm
 have a8:decide (e.attr < 8)=decide (e.attr ≤ 7):=by rw [decide_eq_decide]; omega
 have z1:∀ n:Int,(decide (0 ≤ n) && (decide (n ≤ 5) && decide (n=0)))=decide (n=0):=fun n=>by
  by_cases h:n=0
  ·subst h; rfl
  ·rw [decide_eq_false h]; simp
 rw [a8]
 by_cases k0:e.op=0
 ·rw [if_pos k0,if_pos k0]
  have b1:¬ e.op=1:=by omega
  have b2:¬ e.op=2:=by omega
  have b3:¬ e.op=3:=by omega
  simp only [b1,b2,b3,decide_false,Bool.false_or]
  by_cases h1:e.occ=0 <;> by_cases h2:e.attr=0 <;> cases mv e.v <;> cases hk:decide (e.v.kind ≠ 7) <;> simp [h1,h2]
 rw [if_neg k0,if_neg k0]
 by_cases k1:e.op=1
 ·rw [if_pos k1,if_pos k1]
  simp [k1]
 by_cases k2:e.op=2
 ·rw [if_neg k1,if_pos k2,if_neg k1]
  simp only [k2,decide_true,Bool.true_or,Bool.or_true,Bool.true_and]
  by_cases h2:e.attr=0
  ·simp [h2]
  ·have h3:(decide (0 ≤ e.attr) && decide (e.attr ≤ 0))=false:=by
    rw [Bool.and_eq_false_iff]; simp only [decide_eq_false_iff_not]; omega
   simp only [h2,h3,decide_false,Bool.and_false]
   simp
 by_cases k3:e.op=3
 ·rw [if_neg k1,if_neg k2,if_pos k3,if_neg k1]
  simp only [k3,decide_true,Bool.true_or,Bool.or_true,Bool.true_and]
  by_cases h2:e.attr=0
  ·simp [h2]
  ·have h3:(decide (0 ≤ e.attr) && decide (e.attr ≤ 0))=false:=by
    rw [Bool.and_eq_false_iff]; simp only [decide_eq_false_iff_not]; omega
   simp only [h2,h3,decide_false,Bool.and_false]
   simp
 ·rw [if_neg k1,if_neg k2,if_neg k3,if_neg k1]
  simp only [k1,k2,k3,decide_false,Bool.false_or]
  by_cases h1:e.occ=0
  ·by_cases h2:e.attr=0
   ·simp [h1,h2]
   ·have h3:(decide (0 ≤ e.attr) && decide (e.attr ≤ 0))=false:=by
     rw [Bool.and_eq_false_iff]; simp only [decide_eq_false_iff_not]; omega
    simp only [h1,h2,h3,decide_false,Bool.and_false]
  ·have h3:(decide (0 ≤ e.occ) && (decide (e.occ ≤ 0) && (decide (0 ≤ e.attr) && decide (e.attr ≤ 0))))=false:=by
    rw [← Bool.and_assoc,show (decide (0 ≤ e.occ) && decide (e.occ ≤ 0))=false by rw [Bool.and_eq_false_iff]; simp only [decide_eq_false_iff_not]; omega]; rfl
   simp only [h1,h3,decide_false,Bool.false_and,Bool.and_false]
open Go
def zwa:CCode:=match zfr.body with
 | .seq _ (.seq _ (.seq _ (.seq (.seq _ (.block _ (.loop _ c))) _)))=>c
 | _=>.skip
theorem z0i {e:Exp}(hl:e.args.length ≤ 4){d:Int}(hd:1 ≤ d∧d ≤ 1000000)(ih:∀ x ∈ e.args,lcall E 275 [x.arg,.d (.i .i64 (d - 1))] []=some (.d (.b (zp7 mvV x (d - 1))),[])){Q:Ex→St→Prop}
  (hx:∀ tm,zf8 mvV e.args (d - 1)=true→zba tm 2 = .ptr 0 0→Q (.exit 0) ⟨tm,[bxE e]⟩) (hr:∀ tm hp,zf8 mvV e.args (d - 1)=false→zba tm 4 = .d (.b false)→Q .ret ⟨tm,hp⟩) :
  ∀ (m i:Nat),i + m=e.args.length→(zf8 mvV e.args (d - 1)=zf8 mvV (e.args.drop i) (d - 1)) →
   LX E zwa ⟨[1,2,7],[],[],[],[],true⟩ 1 ⟨[(1,.d (.i .i64 d)),(2,.ptr 0 0),(7,.d (.i .i64 i))],[bxE e]⟩ Q:=by
 intro m
 induction m with
 | zero =>
  intro i hi hall
  have hn:¬ ((i:Int) < e.args.length):=by omega
  refine zan ?_
  simp only [zae,zbo,zwa,zfr,Qf,hn,simprocAttr]
  exact hx _ (by rw [hall,List.drop_of_length_le (by omega)]; rfl) rfl
 | succ m ihm =>
  intro i hi hall
  have hy:(i:Int) < e.args.length:=by omega
  have la:i < e.args.length:=by omega
  have h0:(0:Int) ≤ i:=by omega
  have ga:(e.args.map Exp.row)[i]?=some (Exp.row e.args[i]):=by rw [List.getElem?_map,Qd la]; rfl
  have w:IntKind.i64.wrap ((i:Int) + 1)=((i + 1:Nat):Int):=by rw [i64_in (by omega) (by omega)]; omega
  have wd:IntKind.i64.wrap (d - 1)=d - 1:=i64_in (by omega) (by omega)
  have hc:=ih _ (List.getElem_mem la)
  rw [List.drop_eq_getElem_cons la] at hall
  simp only [zf8] at hall
  generalize e.args[i]=x at *
  rw [zds] at ga
  refine zan ?_
  cases hv:zp7 mvV x (d - 1) with
  | true =>
   rw [hv] at hc
   rw [hv,Bool.true_and] at hall
   simp only [zae,zbo,zwa,zfr,Qf,eq_true hy,eq_true h0,ga,wd,hc,w,simprocAttr]
   exact ⟨_,rfl,ihm (i + 1) (by omega) hall⟩
  | false =>
   rw [hv] at hc
   rw [hv,Bool.false_and] at hall
   simp only [zae,zbo,zwa,zfr,Qf,eq_true hy,eq_true h0,ga,wd,hc,w,simprocAttr]
   exact hr _ _ hall rfl
theorem rmv (e110:E 110=some (.code zk8))(e113:E 113=some (.code z58))(e115:E 115=some (.code zvm))(e131:E 131=some (.code z3e)){v:GVal}(h:Small v∧Fit v):lcall E 110 [v.arg] []=some (.d (.b (mvV v)),[]) :=
 zyp e110 (zpy e113) (zn9 e115 e131) v h.1 h.2
theorem Zg4 (e275:E 275=some (.code zfr))(e278:E 278=some (.code zov))(hv:∀ v:GVal,Small v∧Fit v→lcall E 110 [v.arg] []=some (.d (.b (mvV v)),[])):∀ (n:Nat) (e:Exp) (d:Int),sizeOf e < n→AllV (fun v=>Small v∧Fit v) e→0 ≤ d→d ≤ 1000 →
  lcall E 275 [e.arg,.d (.i .i64 d)] []=some (.d (.b (zp7 mvV e d)),[]):=by
 intro n
 induction n with
 | zero=>intro e d hs; omega
 | succ n ih =>
  intro e d hs ha d0 d1
  cases ha with
  | mk hv0 hae hl =>
  rw [zjq]
  by_cases ht:zam e.op = -2
  ·obtain ⟨k,ca⟩:=z1g e278 ht
   rw [Ql ht,Bool.not_true,Bool.false_and,Bool.and_false]
   refine zat e275 ?_
   simp only [zae,zfr,ca,simprocAttr]
  have ca:=zwo e278 ht
  rw [decide_eq_false ht,Bool.not_false,Bool.true_and]
  by_cases hd:d < 1
  ·rw [decide_eq_false (p:=1 ≤ d) (by omega),Bool.false_and]
   refine zat e275 ?_
   simp only [zae,zfr,ca,eq_true hd,simprocAttr]
  rw [decide_eq_true (p:=1 ≤ d) (by omega),Bool.true_and]
  have hc:∀ x ∈ e.args,lcall E 275 [x.arg,.d (.i .i64 (d - 1))] []=some (.d (.b (zp7 mvV x (d - 1))),[]):=fun x hx =>
   ih x (d - 1) (by have:=zl8 hx; omega) (hae x hx) (by omega) (by omega)
  have hvv:e.op=0→lcall E 110 [e.v.arg] []=some (.d (.b (mvV e.v)),[]):=fun h=>hv _ (hv0 h)
  refine zat e275 ?_
  by_cases hn:0 ≤ zam e.op
  ·by_cases hln:(e.args.length:Int)=zam e.op
   ·have hne:decide (¬ (e.args.length:Int)=zam e.op)=false:=by simp [hln]
    rw [Ql hln,Bool.or_true,Bool.true_and]
    by_cases h4:(4:Int) < e.args.length
    ·rw [decide_eq_false (p:=(e.args.length:Int) ≤ 4) (by omega),Bool.false_and]
     simp only [zae,zfr,ca,hd,eq_true hn,Qf,hne,eq_true h4,simprocAttr]
    rw [decide_eq_true (p:=(e.args.length:Int) ≤ 4) (by omega),Bool.true_and]
    simp only [zae,zfr,ca,hd,eq_true hn,Qf,hne,h4,simprocAttr]
    refine z0i (by omega) (by omega) hc (fun tm hall t2=>?_) (fun tm hp hall t4=>?_) e.args.length 0 (by omega) rfl
    ·rw [hall,Bool.and_true]
     refine m1 (fun tm t2 t8=>m2 hvv (fun tm t2 t8=>m3 (fun tm t2 t8 t9=>m4 (fun tm t4=>?_) t2 t8 t9) t2 t8) t2 t8) t2
     rw [z0h] at t4
     simp only [zae,t4]
    ·rw [hall,Bool.and_false]
     simp only [zae,t4]
   ·have hne:decide (¬ (e.args.length:Int)=zam e.op)=true:=by simp [hln]
    rw [decide_eq_false hln,decide_eq_false (p:=zam e.op < 0) (by omega),Bool.or_false,Bool.false_and]
    simp only [zae,zfr,ca,hd,eq_true hn,Qf,hne,simprocAttr]
  ·rw [decide_eq_true (p:=zam e.op < 0) (by omega),Bool.true_or,Bool.true_and]
   by_cases h4:(4:Int) < e.args.length
   ·rw [decide_eq_false (p:=(e.args.length:Int) ≤ 4) (by omega),Bool.false_and]
    simp only [zae,zfr,ca,hd,hn,Qf,eq_true h4,simprocAttr]
   rw [decide_eq_true (p:=(e.args.length:Int) ≤ 4) (by omega),Bool.true_and]
   simp only [zae,zfr,ca,hd,hn,Qf,h4,simprocAttr]
   refine z0i (by omega) (by omega) hc (fun tm hall t2=>?_) (fun tm hp hall t4=>?_) e.args.length 0 (by omega) rfl
   ·rw [hall,Bool.and_true]
    refine m1 (fun tm t2 t8=>m2 hvv (fun tm t2 t8=>m3 (fun tm t2 t8 t9=>m4 (fun tm t4=>?_) t2 t8 t9) t2 t8) t2 t8) t2
    rw [z0h] at t4
    simp only [zae,t4]
   ·rw [hall,Bool.and_false]
    simp only [zae,t4]
theorem z9j (e268:E 268=some (.code c268))(e275:E 275=some (.code zfr))(e278:E 278=some (.code zov))(hv:∀ v:GVal,Small v∧Fit v→lcall E 110 [v.arg] []=some (.d (.b (mvV v)),[])){e:Exp}(ha:AllV (fun v=>Small v∧Fit v) e) :
  lcall E 268 [e.arg] []=some (.d (.b (zp7 mvV e 12)),[]):=by
 have c1:=Zg4 e275 e278 hv (sizeOf e + 1) e 12 (by omega) ha (by omega) (by omega)
 refine zat e268 ?_
 simp only [zae,c268,c1,simprocAttr]
open Go
mutual
def rrF:Exp→List (Int × Int)
 | .mk op v occ attr args=>if op=1 then [(occ,attr)] else zf6 args
def zf6:List Exp→List (Int × Int)
 | []=>[]
 | x :: r=>rrF x++zf6 r
end
theorem zwb (e:Exp):rrF e=if e.op=1 then [(e.occ,e.attr)] else zf6 e.args:=by
 cases e; simp only [rrF]; rfl
theorem z6p {x:Exp}:∀ {l:List Exp},x ∈ l→(rrF x).length ≤ (zf6 l).length
 | y :: r,h=>by
  simp only [zf6,Qg]
  rcases List.mem_cons.1 h with rfl | h
  ·omega
  ·have:=z6p h; omega
theorem z6q (n:Nat):∀ (l:List Exp),(∀ x ∈ l,(rrF x).length ≤ n)→(zf6 l).length ≤ l.length * n
 | [],_=>by simp [zf6]
 | x :: r,h=>by
  have h1:=h x (List.mem_cons_self ..)
  have h2:=z6q n r fun y hy=>h y (List.mem_cons_of_mem _ hy)
  simp only [zf6,Qg,List.length_cons,Nat.succ_mul]
  omega
theorem Zg5:∀ {d:Nat} {e:Exp},Lt5 d e→(rrF e).length ≤ 6 ^ d:=by
 intro d e h
 induction h with
 | @mk d e h ha ih =>
  have h1:=z6q (6 ^ d) e.args ih
  have h2:e.args.length * 6 ^ d ≤ 5 * 6 ^ d:=Nat.mul_le_mul_right _ h
  have h3:0 < 6 ^ d:=Nat.pow_pos (by omega)
  rw [zwb,Nat.pow_succ]
  split
  ·simp only [List.length_cons,List.length_nil]; omega
  ·omega
theorem zpw:∀ (l:List Exp),(∀ x ∈ l,rrF x=zgv x)→zf6 l=zcd l
 | [],_=>rfl
 | x :: r,h=>by
  simp only [zf6,zcd]
  rw [h x (List.mem_cons_self ..),zpw r fun y hy=>h y (List.mem_cons_of_mem _ hy)]
theorem z9k {e:Exp}(h:RefE e):rrF e=zgv e:=by
 induction h with
 | @mk e h1 h2 h3 h4 h5 ih =>
  rw [zwb,zmv]
  by_cases ho:e.op=1
  ·rw [if_pos ho,if_pos ho,RefE.leaf (.mk h1 h2 h3 h4 h5) ho]; rfl
  ·rw [if_neg ho,if_neg ho,List.nil_append]
   exact zpw _ ih
theorem z4w {l:List Exp}{x1 x2 x3 x4 x5 x6 x7:D}(hl:l.length ≤ 100000)(hc:∀ x ∈ l,lcall E 175 [x.arg] []=some (.d (.l 2 ((rrF x).map zcg)),[])){Q:Ex→St→Prop}:∀ (m i:Nat) (out:List (Int × Int)),i + m=l.length→out.length + (zf6 (l.drop i)).length ≤ 1000000 →
  (∀ tm,zba tm 3 = .own 1 0 2 ((out++zf6 (l.drop i)).map zcg)→Q (.exit 0) ⟨tm,[some (.box [.d x1,.d x2,.d x3,.d x4,.d x5,.d x6,.d x7,.d (.l 8 (l.map Exp.row))]),some (.tok 0 2)]⟩) →
  LX E z0e ⟨[1,3,4],[3],[],[],[],true⟩ 2 ⟨[(1,.ptr 0 0),(3,.own 1 0 2 (out.map zcg)),(4,.d (.i .i64 i))],[some (.box [.d x1,.d x2,.d x3,.d x4,.d x5,.d x6,.d x7,.d (.l 8 (l.map Exp.row))]),some (.tok 0 2)]⟩ Q:=by
 intro m
 induction m with
 | zero =>
  intro i out hi ho hQ
  have hn:¬ ((i:Int) < l.length):=by omega
  rw [List.drop_eq_nil_of_le (by omega)] at hQ
  simp only [zf6,List.append_nil] at hQ
  refine zan ?_
  simp only [zae,zbo,z0e,c175,hn,Qf,simprocAttr]
  exact hQ _ rfl
 | succ m ih =>
  intro i out hi ho hQ
  have hy:(i:Int) < l.length:=by omega
  have la:i < l.length:=by omega
  have h0:(0:Int) ≤ i:=by omega
  have ga:(l.map Exp.row)[i]?=some (Exp.row l[i]):=by rw [List.getElem?_map,Qd la]; rfl
  have w:IntKind.i64.wrap ((i:Int) + 1)=((i + 1:Nat):Int):=by rw [i64_in (by omega) (by omega)]; omega
  have c1:=hc _ (List.getElem_mem la)
  rw [List.drop_eq_getElem_cons la] at hQ ho
  simp only [zf6,Qg,← List.append_assoc] at hQ ho
  generalize l[i]=x at *
  rw [zds] at ga
  have r2:zbi (out.length + (rrF x).length) 16=true:=by unfold zbi; exact Ql (by omega)
  refine zan ?_
  simp only [zae,zbo,z0e,c175,eq_true hy,eq_true h0,ga,c1,Qf,r2,zro,w,simprocAttr]
  refine ⟨_,rfl,ih (i + 1) (out++rrF x) (by omega) (by rw [Qg]; omega) hQ⟩
theorem z0j (e175:E 175=some (.code c175)):∀ (d:Nat) (e:Exp),Lt5 d e→(rrF e).length ≤ 1000000→lcall E 175 [e.arg] []=some (.d (.l 2 ((rrF e).map zcg)),[]):=by
 intro d
 induction d with
 | zero=>intro e h; cases h
 | succ d ih =>
  intro e h hlen
  cases h with
  | mk hl ha =>
  rw [zwb] at hlen
  refine zat e175 ?_
  rw [zwb]
  by_cases ho:e.op=1
  ·rw [if_pos ho]
   simp only [zae,c175,eq_true ho,zcg,simprocAttr]
  ·rw [if_neg ho] at hlen ⊢
   have hc:∀ x ∈ e.args,lcall E 175 [x.arg] []=some (.d (.l 2 ((rrF x).map zcg)),[]):=fun x hx =>
    ih x (ha x hx) (by have:=z6p hx; omega)
   simp only [zae,c175,ho,simprocAttr]
   refine z4w (by omega) hc e.args.length 0 [] (by omega) (by rw [List.drop_zero]; simpa using hlen) (fun tm h2=>?_)
   simp only [zae,h2,simprocAttr]
theorem xmv (A:XE E){v:GVal}(h:Small v∧Fit v):lcall E 111 [v.arg] []=some (.d (.b (mvV v)),[]):=by
 have contains:∀ (f:Nat) (l:List GVal) (p:GVal→Bool),l.length ≤ 1000→(∀ x ∈ l,lcall E f [x.arg] []=some (.d (.b (p x)),[]))→lcall E 141 [.d (.l 4 (zab l)),.d (.f f [] [])] []=some (.d (.b (l.any p)),[]) :=
  fun f l p hl ih=>ztw A.e141 A.e155 hl ih
 have rises:∀ (f:Nat) (l:List GVal) (c:GVal→GVal→Int),l.length ≤ 1000→(∀ x ∈ l,∀ y ∈ l,lcall E f [x.arg,y.arg] []=some (.d (.i .i64 (c x y)),[]))→lcall E 151 [.d (.l 4 (zab l)),.d (.f f [] [])] []=some (.d (.b (zbe (fun a b=>decide (c a b < 0)) l)),[]) :=
  fun f l c hl ih=>z12 A.e151 hl ih
 have key137:=fun v=>zwe A.e137 rfl v
 have row:=Zbn A.e140 contains rises (z08 A) (zww A.e152 A.e153) (zyn A.e154 key137 (zyl A.e145 A.e129))
 have mayIn:=z14 A.e125 A.e142 contains (zym A.e139) row
 have:=Zbo A.e111 (z0q A.e112) mayIn v h.1
 exact this
open Go
structure OneF (E:Nat→Option Fn)(vs:List (List GVal))(ts:List (List UInt8))(x:Exp)(may:Bool):Prop where
 c192:lcall E 192 [x.arg] []=some (.d (.l 2 ((zgv x).map zcg)),[])
 c175:lcall E 175 [x.arg] []=some (.d (.l 2 ((rrF x).map zcg)),[])
 c210:lcall E 210 [x.arg] []=some (.d (.b may),[])
 c268:lcall E 268 [x.arg] []=some (.d (.b may),[])
 len:(zgv x).length ≤ 1000000
 same:may=true→rrF x=zgv x
 c269:may=true→lcall E 269 [x.arg,.d (.l 1 (zbb vs)),.d (.l 1 (ts.map zc1))] []=some ((zb1 vs ts x).arg,[])
 c270:may=true→lcall E 270 [x.arg,.d (.l 1 (zbb vs)),.d (.l 1 (ts.map zc1))] []=some ((zb1 vs ts x).arg,[])
 c121:may=true→lcall E 121 [(zb1 vs ts x).arg,(zb1 vs ts x).arg] []=some (.d (.b true),[])
def zhi:CCode:=match zua.body with
 | .seq _ (.seq _ (.seq _ (.seq _ (.seq _ (.seq (.seq _ (.block _ (.loop _ c))) _)))))=>c
 | _=>.skip
def z0k:CCode:=match zhi with
 | .seq _ (.seq (.block _ (.seq _ (.seq _ (.seq _ (.seq _ (.seq (.seq _ (.block _ (.loop _ c))) _)))))) _)=>c
 | _=>.skip
abbrev Zbf (e:Exp):List D:=[.i .i64 e.op,.i .i64 e.v.kind,.i .i64 e.v.i,.s e.v.s,.l 4 (zab e.v.l),.i .i64 e.occ,.i .i64 e.attr,.l 8 (e.args.map Exp.row)]
abbrev hpA (e:Exp)(p:List UInt8)(n':Nat):List (Option Obj):=[bxE e,zf7 p n',none,none,none,none,none,none,none,some (.tok 0 8)]
theorem z4x (R:List (Int × Int))(i:Nat)(h:i < R.length):(R.map zcg)[i]?=some [.i .i64 R[i].1,.i .i64 R[i].2]:=by
 rw [List.getElem?_map,Qd h]; rfl
theorem z0l {vs:List (List GVal)}{ts:List (List UInt8)}{e w:Exp}{p:List UInt8}{n':Nat}{j:Int}{R:List (Int × Int)}(hR:R.length ≤ 1000000){Q:Ex→St→Prop}
  (hx:∀ tm,zba tm 7 = .d (.l 1 (zbb vs))→zba tm 8 = .d (.l 1 (ts.map zc1))→zba tm 9 = .own 9 0 8 [Zbf e,Zbf w]→zba tm 10 = .d (.i .i64 j)→Q (.exit 2) ⟨tm,hpA e p n'⟩) :
  ∀ (m k:Nat),k + m=R.length→LX E z0k ⟨[7,8,9,10,11,12,13],[],[],[],[],true⟩ 10 ⟨[(7,.d (.l 1 (zbb vs))),(8,.d (.l 1 (ts.map zc1))),(9,.own 9 0 8 [Zbf e,Zbf w]),(10,.d (.i .i64 j)),(11,.d (.l 2 (R.map zcg))),(12,.d (.l 2 (R.map zcg))),(13,.d (.i .i64 k))],hpA e p n'⟩ Q:=by
 intro m
 induction m with
 | zero =>
  intro k hk
  have hn:¬ ((k:Int) < (R.length:Int)):=by omega
  refine zan ?_
  simp only [zae,zbo,z0k,zhi,zua,Qf,hn,simprocAttr]
  exact hx _ rfl rfl rfl rfl
 | succ m ih =>
  intro k hk
  have hy:(k:Int) < (R.length:Int):=by omega
  have h0:(0:Int) ≤ (k:Int):=by omega
  have wk:IntKind.i64.wrap ((k:Int) + 1)=((k + 1:Nat):Int):=by rw [i64_in (by omega) (by omega)]; omega
  have g:=z4x R k (by omega)
  refine zan ?_
  simp only [zae,zbo,z0k,zhi,zua,Qf,eq_true hy,eq_true h0,g,wk,beq_self_eq_true,simprocAttr]
  exact ⟨by rfl,_,rfl,ih (k + 1) (by omega)⟩
abbrev sAl (vs:List (List GVal))(ts:List (List UInt8))(e w:Exp)(p:List UInt8)(n':Nat)(i:Int):St:=⟨[(7,.d (.l 1 (zbb vs))),(8,.d (.l 1 (ts.map zc1))),(9,.own 9 0 8 [Zbf e,Zbf w]),(10,.d (.i .i64 i))],hpA e p n'⟩
set_option maxHeartbeats 8000000 in
theorem Zjx {vs:List (List GVal)}{ts:List (List UInt8)}{e w:Exp}{p:List UInt8}{n':Nat}{b:Bool}(F:OneF E vs ts e b){Q:Ex→St→Prop}
  (hq:LX E zhi ⟨[7,8,9,10],[],[],[],[],true⟩ 10 (sAl vs ts e w p n' 1) Q):LX E zhi ⟨[7,8,9,10],[],[],[],[],true⟩ 10 (sAl vs ts e w p n' 0) Q:=by
 have k1:=F.c192
 have k2:=F.c175
 have k3:=F.c210
 have k4:=F.c268
 have y1:(0:Int) < 2:=by decide
 have w1:IntKind.i64.wrap (0 + 1)=1:=rfl
 refine zan ?_
 cases b with
 | false =>
  simp only [zae,zbo,zhi,zua,eq_true y1,k1,k2,k3,k4,w1,simprocAttr]
  exact ⟨by rfl,by rfl,_,rfl,hq⟩
 | true =>
  have hs:=F.same rfl
  rw [hs] at k2
  have k5:=F.c269 rfl
  have k6:=F.c270 rfl
  have k7:=F.c121 rfl
  simp only [zae,zbo,zhi,zua,eq_true y1,k1,k2,k3,k4,w1,Qf,simprocAttr]
  refine ⟨by rfl,by rfl,z0l F.len (fun tm t7 t8 t9 t10=>?_) _ 0 (Nat.zero_add _)⟩
  simp only [zae,zbo,t7,t8,t9,t10,k4,k5,k6,k7,w1,simprocAttr]
  exact ⟨by rfl,_,rfl,hq⟩
set_option maxHeartbeats 8000000 in
theorem Zjy {vs:List (List GVal)}{ts:List (List UInt8)}{e w:Exp}{p:List UInt8}{n':Nat}{b:Bool}(F:OneF E vs ts w b){Q:Ex→St→Prop}
  (hq:LX E zhi ⟨[7,8,9,10],[],[],[],[],true⟩ 10 (sAl vs ts e w p n' 2) Q):LX E zhi ⟨[7,8,9,10],[],[],[],[],true⟩ 10 (sAl vs ts e w p n' 1) Q:=by
 have k1:=F.c192
 have k2:=F.c175
 have k3:=F.c210
 have k4:=F.c268
 have y1:(1:Int) < 2:=by decide
 have w1:IntKind.i64.wrap (1 + 1)=2:=rfl
 refine zan ?_
 cases b with
 | false =>
  simp only [zae,zbo,zhi,zua,eq_true y1,k1,k2,k3,k4,w1,simprocAttr]
  exact ⟨by rfl,by rfl,_,rfl,hq⟩
 | true =>
  have hs:=F.same rfl
  rw [hs] at k2
  have k5:=F.c269 rfl
  have k6:=F.c270 rfl
  have k7:=F.c121 rfl
  simp only [zae,zbo,zhi,zua,eq_true y1,k1,k2,k3,k4,w1,Qf,simprocAttr]
  refine ⟨by rfl,by rfl,z0l F.len (fun tm t7 t8 t9 t10=>?_) _ 0 (Nat.zero_add _)⟩
  simp only [zae,zbo,t7,t8,t9,t10,k4,k5,k6,k7,w1,simprocAttr]
  exact ⟨by rfl,_,rfl,hq⟩
open Go
theorem AllV.v {P:GVal→Prop}{e:Exp}(h:AllV P e):e.op=0→P e.v:=by cases h; assumption
theorem AllV.a {P:GVal→Prop}{e:Exp}(h:AllV P e):∀ x ∈ e.args,AllV P x:=by cases h; assumption
inductive AllW (P:GVal→Prop):Exp→Prop where
 | mk {e:Exp} (hv:e.op=0→P e.v) (ha:∀ x ∈ e.args,AllW P x):AllW P e
theorem AllW.v {P:GVal→Prop}{e:Exp}(h:AllW P e):e.op=0→P e.v:=by cases h; assumption
theorem AllW.a {P:GVal→Prop}{e:Exp}(h:AllW P e):∀ x ∈ e.args,AllW P x:=by cases h; assumption
theorem Znj {P:GVal→Prop}{e:Exp}(h:AllV P e):AllW P e:=by
 induction h with
 | mk hv ha hl ih=>exact .mk hv ih
theorem zlk {mv:GVal→Bool}{d:Int}:∀ {l:List Exp},zf8 mv l d=true→∀ x ∈ l,zp7 mv x d=true
 | [],_,x,hx=>by cases hx
 | y :: r,h,x,hx=>by
  simp only [zf8,Qi] at h
  rcases List.mem_cons.1 hx with rfl | hx
  ·exact h.1
  ·exact zlk h.2 x hx
theorem Zjz {v:GVal}(h:mvV v=true)(hf:Small v∧Fit v):Gd v:=by
 unfold mvV at h
 simp only [Qi,Qh] at h
 refine ⟨h.2, ?_⟩
 have:=h.1
 rw [zgu v hf.2] at this
 omega
theorem z9l:∀ (n:Nat) (e:Exp) (D:Int),sizeOf e < n→zp7 mvV e D=true→AllV (fun v=>Small v∧Fit v) e→AllW FitV e→RefE e:=by
 intro n
 induction n with
 | zero=>intro e D h; omega
 | succ n ih =>
  intro e D hs hm ha hf
  rw [zjq] at hm
  simp only [Qi,Bool.or_eq_true,Bool.not_eq_true',Qh,decide_eq_false_iff_not] at hm
  obtain ⟨_,ht,hn,h4,hfl,hall⟩:=hm
  refine .mk ht hn (by omega) (fun h0=>?_) (fun x hx=>ih x (D - 1) (by have:=zl8 hx; omega) (zlk hall x hx) (ha.a x hx) (hf.a x hx))
  unfold ze2 at hfl
  rw [if_pos h0] at hfl
  simp only [Qi] at hfl
  exact ⟨Zjz hfl.2.1 (ha.v h0),hf.v h0⟩
theorem z0m:∀ (d:Nat) (e:Exp),zp7 mvV e d=true→Lt5 d e
 | 0,e,h=>by
  rw [zjq] at h
  simp only [Qi,Qh] at h
  have:=h.1
  omega
 | d + 1,e,h=>by
  rw [zjq] at h
  simp only [Qi,Qh] at h
  refine .mk (by omega) fun x hx=>z0m d x ?_
  have:=zlk h.2.2.2.2.2 x hx
  rwa [show ((d + 1:Nat):Int) - 1=(d:Int) by omega] at this
theorem Zg6 {e:Exp}(h:GdE e):AllV (fun v=>Small v∧Fit v) e:=by
 induction h with
 | @mk op v occ attr l hv hl hn ih =>
  refine .mk (fun h0=>?_) ih (by show l.length ≤ 100000; omega)
  have g:=hv h0
  exact ⟨gsm g,by have:=g.size; show szN v ≤ 1000000000000; omega⟩
structure AllE (E:Nat→Option Fn):Prop where
 A:XE E
 R:RE E
 Z:ZE E
 e107:E 107=some (.code zw4)
 e110:E 110=some (.code zk8)
 e175:E 175=some (.code c175)
 e265:E 265=some (.code zyc)
 e266:E 266=some (.code zyd)
 e268:E 268=some (.code c268)
 e270:E 270=some (.code c270)
 e275:E 275=some (.code zfr)
theorem z6r (H:AllE E){vs:List (List GVal)}{ts:List (List UInt8)}(hr:GdR vs ts)(hf:∀ l ∈ vs,∀ v ∈ l,FitV v){x:Exp}(ha:AllV (fun v=>Small v∧Fit v) x)(hv:AllW FitV x)(h5:Lt5 4 x):OneF E vs ts x (zp7 mvV x 12):=by
 have l1:=z4t h5
 have l2:=Zg5 h5
 have p6:6 ^ 4=1296:=by decide
 have rf:zp7 mvV x 12=true→RefE x:=fun h=>z9l _ x 12 (Nat.lt_succ_self _) h ha hv
 exact {
  c192:=Zaj H.A _ x (Nat.lt_succ_self _) ha (by omega)
  c175:=z0j H.e175 4 x h5 (by omega)
  c210:=Zht H.A (fun v h=>xmv H.A h) ha
  c268:=z9j H.e268 H.e275 H.Z.e278 (fun v h=>rmv H.e110 H.Z.e113 H.Z.e115 H.Z.e131 h) ha
  len:=by omega
  same:=fun h=>z9k (rf h)
  c269:=fun h=>Zaa (Zj4 H.A) hr (rf h).gd
  c270:=fun h=>Zg3 H.Z H.e270 hr (fun e he=>z0g hr hf _ e (Nat.lt_succ_self _) he) _ x (Nat.lt_succ_self _) (rf h)
  c121:=fun h=>Zj7 H.R _ (zof hr (rf h).gd) }
theorem z9m (H:AllE E)(e255:E 255=some (.code zua))(hbeg:lcall E 264 [] []=some (.d (.b true),[]))(p m:List UInt8){e:Exp}(he:AllW FitV e) :
  lcall E 255 [.d (.l 1 (zca p)),.d (.l 1 (zca m)),e.arg] []=some (.d (.b true),[]):=by
 have lp:(zca p).length=p.length:=by simp [zca]
 have lm:(zca m).length=m.length:=by simp [zca]
 have cl:lcall E 265 [e.arg,.d (.i .i64 4)] []=some (.d (.b (zdf 4 e)),[]):=zta H.e265 H.e107 4 (by omega) e
 by_cases h1:(100:Int) < p.length
 ·refine zat e255 ?_
  simp only [zae,zua,hbeg,lp,eq_true h1,simprocAttr]
 by_cases h2:(100:Int) < m.length
 ·refine zat e255 ?_
  simp only [zae,zua,hbeg,lp,lm,h1,eq_true h2,simprocAttr]
 cases hl:zdf 4 e with
 | false =>
  rw [hl] at cl
  refine zat e255 ?_
  simp only [zae,zua,hbeg,lp,lm,h1,h2,cl,simprocAttr]
 | true =>
  rw [hl] at cl
  obtain ⟨vs,ts,cr,v3,vg,tl⟩:=Zj8 H.R H.e266 (l:=m) (by omega)
  obtain ⟨w,n',ce,_,gw⟩:=Zj5 H.R (l:=p) (by omega) 4 (by omega) 0 (by omega)
  have ce':lcall E 267 [.ptr 0 0,.d (.i .i64 4)] [some (.box [.d (.l 1 (zca p)),.d (.i .i64 0)])]=some (w.arg,[zf7 p n']):=ce
  have hr:GdR vs ts:=⟨fun l hl v hv=>((vg l hl).2 v hv).gd,tl⟩
  have hf:∀ l ∈ vs,∀ v ∈ l,FitV v:=fun l hl v hv=>((vg l hl).2 v hv).fit
  have mw:zp7 mvV w 12=true:=gw.may 12 (by decide)
  have m4:zp7 mvV w (4:Nat)=true:=gw.may 4 (by decide)
  have F1:=z6r H hr hf (ztc 4 e hl) he (ztb 4 e hl)
  have F2:=z6r H hr hf (Zg6 gw.gd) (Znj gw.vals) (z0m 4 w m4)
  rw [mw] at F2
  have k3:=F2.c210
  refine zat e255 ?_
  simp only [zae,List.range'_one,zua,hbeg,lp,lm,h1,h2,cl,cr,zyk H.R.e108 p,ce',simprocAttr]
  refine ⟨by rfl,Zjx F1 (Zjy F2 (zan ?_))⟩
  simp only [zae,zbo,zhi,zua,k3,simprocAttr]
open Go
section
variable {P:Program}
theorem zeb {t:TypeId}{fs:Array Field}{ds:List D}{f:Nat}(h:∀ x ∈ fs.toList,tyD P f x.type ((ds.drop x.offset).take (P.cellsOf x.type))){o:Nat}{u:TypeId}(hm:(o,u) ∈ fs.toList.map (fun x=>(x.offset,x.type))):tyD P f u ((ds.drop o).take (P.cellsOf u)):=by
 obtain ⟨x,hx,he⟩:=List.mem_map.1 hm
 cases he
 exact h x hx
theorem Zg7 {v k i s l:TypeId}{fs:Array Field}(hv:P.underlying v=some (.struct fs))(hf:fs.toList.map (fun x=>(x.offset,x.type))=[(0,k),(1,i),(2,s),(3,l)])(hk:P.underlying k=some (.int .i64))(hi:P.underlying i=some (.int .i64))(hs:P.underlying s=some .string)(hl:P.underlying l=some (.slice v))
  (ck:P.cellsOf k=1) (ci:P.cellsOf i=1) (cs:P.cellsOf s=1) (cl:P.cellsOf l=1) (cv:P.cellsOf v=4):∀ (f:Nat) {ds:List D},tyD P f v ds→∃ x:GVal,ds=x.row∧FitV x:=by
 intro f
 induction f using Nat.strongRecOn with
 | _ f ih =>
  intro ds h
  cases f with
  | zero=>exact h.elim
  | succ f =>
   simp only [tyD,hv,cv] at h
   obtain ⟨hlen,h⟩:=h
   obtain ⟨a,b,c,d,rfl⟩:∃ a b c d,ds=[a,b,c,d]:=by
    match ds,hlen with
    | [a,b,c,d],_=>exact ⟨a,b,c,d,rfl⟩
   have h1:=zeb (t:=v) h (o:=0) (u:=k) (by rw [hf]; simp)
   have h2:=zeb (t:=v) h (o:=1) (u:=i) (by rw [hf]; simp)
   have h3:=zeb (t:=v) h (o:=2) (u:=s) (by rw [hf]; simp)
   have h4:=zeb (t:=v) h (o:=3) (u:=l) (by rw [hf]; simp)
   rw [ck] at h1
   rw [ci] at h2
   rw [cs] at h3
   rw [cl] at h4
   simp only [List.drop_zero,List.drop_succ_cons,List.take_succ_cons,List.take_zero] at h1 h2 h3 h4
   obtain ⟨n1,e1,_⟩:=zr1 hk h1
   obtain ⟨n2,e2,b2⟩:=zr1 hi h2
   obtain ⟨x3,e3⟩:=Zfc hs h3
   cases e1; cases e2; cases e3
   cases f with
   | zero=>exact h4.elim
   | succ f =>
    simp only [tyD,hl,cv] at h4
    obtain ⟨xs,e4,_,h5⟩:=h4
    cases e4
    have:∀ (xs:List (List D)),(∀ r ∈ xs,r.length=4∧tyD P f v r)→∃ l,xs=zab l∧∀ x ∈ l,FitV x:=by
     intro xs
     induction xs with
     | nil=>intro _; exact ⟨[],rfl,fun _ h=>by cases h⟩
     | cons r rs ihr =>
      intro h
      obtain ⟨l,rfl,hl⟩:=ihr (fun r hr=>h r (by simp [hr]))
      obtain ⟨_,h1⟩:=h r (by simp)
      obtain ⟨x,rfl,hx⟩:=ih f (by omega) h1
      refine ⟨x :: l,rfl,fun y hy=>?_⟩
      rcases List.mem_cons.1 hy with rfl | hy
      ·exact hx
      ·exact hl y hy
    obtain ⟨l,rfl,hl⟩:=this xs h5
    exact ⟨.mk n1 n2 x3 l,rfl,⟨b2,hl⟩⟩
theorem ty_expr {t v k i s l a:TypeId}{fs gs:Array Field}(ht:P.underlying t=some (.struct gs))(hg:gs.toList.map (fun x=>(x.offset,x.type))=[(0,k),(1,v),(5,k),(6,k),(7,a)])(ha:P.underlying a=some (.slice t))
  (hv:P.underlying v=some (.struct fs)) (hf:fs.toList.map (fun x=>(x.offset,x.type))=[(0,k),(1,i),(2,s),(3,l)]) (hk:P.underlying k=some (.int .i64)) (hi:P.underlying i=some (.int .i64)) (hs:P.underlying s=some .string) (hl:P.underlying l=some (.slice v))
  (ck:P.cellsOf k=1) (ci:P.cellsOf i=1) (cs:P.cellsOf s=1) (cl:P.cellsOf l=1) (cv:P.cellsOf v=4) (ca:P.cellsOf a=1) (ct:P.cellsOf t=8):∀ (f:Nat) {ds:List D},tyD P f t ds→∃ x:Exp,ds=x.row∧AllW FitV x:=by
 intro f
 induction f using Nat.strongRecOn with
 | _ f ih =>
  intro ds h
  cases f with
  | zero=>exact h.elim
  | succ f =>
   simp only [tyD,ht,ct] at h
   obtain ⟨hlen,h⟩:=h
   obtain ⟨d0,d1,d2,d3,d4,d5,d6,d7,rfl⟩:∃ d0 d1 d2 d3 d4 d5 d6 d7,ds=[d0,d1,d2,d3,d4,d5,d6,d7]:=by
    match ds,hlen with
    | [d0,d1,d2,d3,d4,d5,d6,d7],_=>exact ⟨d0,d1,d2,d3,d4,d5,d6,d7,rfl⟩
   have h0:=zeb (t:=t) h (o:=0) (u:=k) (by rw [hg]; simp)
   have h1:=zeb (t:=t) h (o:=1) (u:=v) (by rw [hg]; simp)
   have h5:=zeb (t:=t) h (o:=5) (u:=k) (by rw [hg]; simp)
   have h6:=zeb (t:=t) h (o:=6) (u:=k) (by rw [hg]; simp)
   have h7:=zeb (t:=t) h (o:=7) (u:=a) (by rw [hg]; simp)
   rw [ck] at h0 h5 h6
   rw [cv] at h1
   rw [ca] at h7
   simp only [List.drop_zero,List.drop_succ_cons,List.take_succ_cons,List.take_zero] at h0 h1 h5 h6 h7
   obtain ⟨n0,e0,_⟩:=zr1 hk h0
   obtain ⟨n5,e5,_⟩:=zr1 hk h5
   obtain ⟨n6,e6,_⟩:=zr1 hk h6
   obtain ⟨x,ex,hx⟩:=Zg7 hv hf hk hi hs hl ck ci cs cl cv f h1
   obtain ⟨xk,xi,xs,xl⟩:=x
   cases e0; cases e5; cases e6; cases ex
   cases f with
   | zero=>exact h7.elim
   | succ f =>
    simp only [tyD,ha,ct] at h7
    obtain ⟨rs,e7,hln,h8⟩:=h7
    cases e7
    have:∀ (xs:List (List D)),(∀ r ∈ xs,r.length=8∧tyD P f t r)→∃ l:List Exp,xs=l.map Exp.row∧∀ x ∈ l,AllW FitV x:=by
     intro xs
     induction xs with
     | nil=>intro _; exact ⟨[],rfl,fun _ h=>by cases h⟩
     | cons r rs ihr =>
      intro h
      obtain ⟨l,rfl,hl⟩:=ihr (fun r hr=>h r (by simp [hr]))
      obtain ⟨_,h1⟩:=h r (by simp)
      obtain ⟨x,rfl,hx⟩:=ih f (by omega) h1
      refine ⟨x :: l,rfl,fun y hy=>?_⟩
      rcases List.mem_cons.1 hy with rfl | hy
      ·exact hx
      ·exact hl y hy
    obtain ⟨l,rfl,hl⟩:=this rs h8
    refine ⟨.mk n0 (.mk xk xi xs xl) n5 n6 l,by rw [zds]; rfl,.mk (fun _=>hx) hl⟩
end
end Ab.Vx
namespace Ab
def tT:FTree:=(.node 210 (.node 132 (.node 119 (.node 112 (.node 109 (.node 107 (.leaf 107 (.code zw4)) (.node 108 (.leaf 108 (.code Zaw)) (.leaf 109 (.code zvl)))) (.node 110 (.leaf 110 (.code zk8)) (.node 111 (.leaf 111 (.code Zax)) (.leaf 112 (.code Zay))))) (.node 115 (.node 113 (.leaf 113 (.code z58)) (.node 114 (.leaf 114 (.code Zfh)) (.leaf 115 (.code zvm)))) (.node 116 (.leaf 116 (.code Zaz)) (.node 117 (.leaf 117 (.code z1y)) (.leaf 119 (.code Zfi)))))) (.node 126 (.node 123 (.node 120 (.leaf 120 (.code z3b)) (.node 121 (.leaf 121 (.code c121)) (.leaf 123 (.code Za0)))) (.node 124 (.leaf 124 (.code z8a)) (.node 125 (.leaf 125 (.code z1z)) (.leaf 126 (.code z59))))) (.node 129 (.node 127 (.leaf 127 (.code c127)) (.node 128 (.leaf 128 (.code z3c)) (.leaf 129 (.code zw5)))) (.node 130 (.leaf 130 (.code z3d)) (.node 131 (.leaf 131 (.code z3e)) (.leaf 132 (.code Za1))))))) (.node 144 (.node 138 (.node 135 (.node 133 (.leaf 133 (.code Za2)) (.node 134 (.leaf 134 (.prim (zh1))) (.leaf 135 (.code Za3)))) (.node 136 (.leaf 136 (.code Zfj)) (.node 137 (.leaf 137 (.code Za4)) (.leaf 138 (.code Zij))))) (.node 141 (.node 139 (.leaf 139 (.code z10)) (.node 140 (.leaf 140 (.code z3f)) (.leaf 141 (.code Zfk)))) (.node 142 (.leaf 142 (.code z8b)) (.node 143 (.leaf 143 (.code c143)) (.leaf 144 (.code Za5)))))) (.node 152 (.node 147 (.node 145 (.leaf 145 (.code c145)) (.node 146 (.leaf 146 (.prim (zex 4 56))) (.leaf 147 (.code z3g)))) (.node 150 (.leaf 150 (.code z3h)) (.node 151 (.leaf 151 (.code z8c)) (.leaf 152 (.code Zfl))))) (.node 155 (.node 153 (.leaf 153 (.code z6a)) (.node 154 (.leaf 154 (.code Zfm)) (.leaf 155 (.code z6b)))) (.node 175 (.leaf 175 (.code c175)) (.node 192 (.leaf 192 (.code c192)) (.leaf 210 (.code c210)))))))) (.node 282 (.node 267 (.node 239 (.node 236 (.node 228 (.leaf 228 (.code zyb)) (.node 229 (.leaf 229 (.code Zjh)) (.leaf 236 (.code zsd)))) (.node 237 (.leaf 237 (.code zjb)) (.node 238 (.leaf 238 (.code Zik)) (.leaf 239 (.code Zji))))) (.node 264 (.node 241 (.leaf 241 (.code z8d)) (.node 255 (.leaf 255 (.code zua)) (.leaf 264 (.code Zjj)))) (.node 265 (.leaf 265 (.code zyc)) (.node 266 (.leaf 266 (.code zyd)) (.leaf 267 (.code zou)))))) (.node 276 (.node 270 (.node 268 (.leaf 268 (.code c268)) (.node 269 (.leaf 269 (.code c269)) (.leaf 270 (.code c270)))) (.node 274 (.leaf 274 (.code z6c)) (.node 275 (.leaf 275 (.code zfr)) (.leaf 276 (.code Za6))))) (.node 279 (.node 277 (.leaf 277 (.code zrq)) (.node 278 (.leaf 278 (.code zov)) (.leaf 279 (.code zw6)))) (.node 280 (.leaf 280 (.code Za7)) (.node 281 (.leaf 281 (.code zye)) (.leaf 282 (.code zg0))))))) (.node 294 (.node 288 (.node 285 (.node 283 (.leaf 283 (.code Zil)) (.node 284 (.leaf 284 (.code Zfn)) (.leaf 285 (.code z3i)))) (.node 286 (.leaf 286 (.code z8e)) (.node 287 (.leaf 287 (.code zmk)) (.leaf 288 (.code z8f))))) (.node 291 (.node 289 (.leaf 289 (.code z3j)) (.node 290 (.leaf 290 (.code zml)) (.leaf 291 (.code zza)))) (.node 292 (.leaf 292 (.code Za8)) (.node 293 (.leaf 293 (.code Za9)) (.leaf 294 (.code Zba)))))) (.node 300 (.node 297 (.node 295 (.leaf 295 (.prim (zkl))) (.node 296 (.leaf 296 (.prim (zh2))) (.leaf 297 (.code z6d)))) (.node 298 (.leaf 298 (.code zyf)) (.node 299 (.leaf 299 (.code Zfo)) (.leaf 300 (.code zub))))) (.node 303 (.node 301 (.leaf 301 (.code z8g)) (.node 302 (.leaf 302 (.code z6e)) (.leaf 303 (.code z3k)))) (.node 314 (.node 304 (.leaf 304 (.code Zbb)) (.leaf 314 (.code Zfp))) (.node 315 (.leaf 315 (.prim (zn5))) (.leaf 325 (.code Zfq)))))))))
noncomputable def tF:Nat→Option Fn:=FTree.get tT
end Ab
