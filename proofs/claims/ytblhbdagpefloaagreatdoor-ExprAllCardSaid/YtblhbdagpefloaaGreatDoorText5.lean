/-
 What an operation comes to of values.
-/
import Derived.Test.YtblhbdagpefloaaGreatDoorText4
set_option linter.unusedSimpArgs false
set_option linter.unusedVariables false
set_option linter.unusedSectionVars false
set_option linter.unnecessarySimpa false
set_option maxRecDepth 100000
set_option maxHeartbeats 2000000
namespace Ab.Vx
open Go
variable {E:Nat→Option Fn}
def Ord (v:GVal):Prop:=(v.kind=5→zbe ltV v.l=true)∧(v.kind=6→zbe ltK v.l=true∧∀ x ∈ v.l,x.l.length=2)
def zl5 (op:Int)(a b:GVal):GVal :=
 if op=4 ∨ op=5 ∨ op=6 then (if a.kind=1∧b.kind=1 then zoz op a.i b.i else zef 4)
 else if op=7 then zjr (decide (zda a b=0)) else if op=8 then zjr (decide (zda a b < 0))
 else if op=9 ∨ op=10 then zej op a b
 else if op=13 then ztv a b
 else if op=17 then (if a.kind=6∧b.kind=3 then zyj a b else zef 4)
 else if op=18 then (if a.kind=6∧b.kind=3 then zjr (zjo b.s a.l) else zef 4)
 else setG op a b
def ofG (op:Int)(l:List GVal):GVal :=
 if op=21 then .mk 5 0 [] [] else if op=22 then .mk 6 0 [] [] else if op=14 then .mk 4 0 [] l else
 match l with
 | [a]=>if op=11 then zej 11 a a else ze3 a
 | [a,b]=>zl5 op a b
 | [a,b,c]=>if a.kind=6∧b.kind=3 then .mk 6 0 [] (zu6 a.l b c) else zef 4
 | _=>zef 4
theorem Zhb (A:XE E)(a b:GVal)(r:List GVal)(hr:r.length ≤ 100)(p q:Int):lcall E 297 [.d (.l 4 (zab (a :: b :: r))),.d (.l 1 [[.i .i64 p],[.i .i64 q]])] []=some (.d (.b (decide (a.kind=p) && decide (b.kind=q))),[]):=by
 have k:=zga A (l:=a :: b :: r) (ws:=[p,q]) (by simp; omega) (by simp)
 simp only [zez,Bool.and_true,kr2] at k
 exact k
theorem Zhc (A:XE E){op:Int}(ho:op=4 ∨ op=5 ∨ op=6)(a b:GVal):lcall E 287 [.d (.i .i64 op),.d (.l 4 [a.row,b.row])] []=some ((zl5 op a b).arg,[]):=by
 have k:=Zhb A a b [] (by simp) 1 1
 have b4:=zey A 4
 have s:lcall E 298 [.d (.i .i64 op),.d (.i .i64 a.i),.d (.i .i64 b.i)] []=some ((zoz op a.i b.i).arg,[]):=by
  rcases ho with rfl | rfl | rfl
  ·exact Zal A _ _
  ·exact Zam A _ _
  ·exact Zan A _ _
 unfold zl5
 rw [if_pos ho]
 simp only [zab,zas] at k
 rw [zas,zas]
 refine zat A.e287 ?_
 by_cases h:a.kind=1∧b.kind=1
 ·rw [if_pos h]
  rw [Ql h.1,Ql h.2] at k
  rcases ho with rfl | rfl | rfl
  ·simp only [zae,zmk,k,s,simprocAttr]
   rfl
  ·simp only [zae,zmk,k,s,simprocAttr]
   rfl
  ·simp only [zae,zmk,k,s,simprocAttr]
   rfl
 ·rw [if_neg h]
  have hk:(decide (a.kind=1) && decide (b.kind=1))=false:=by
   by_cases e1:a.kind=1 <;> by_cases e2:b.kind=1 <;> simp_all
  rw [hk] at k
  rcases ho with rfl | rfl | rfl
  ·simp only [zae,zmk,k,b4,simprocAttr]
  ·simp only [zae,zmk,k,b4,simprocAttr]
  ·simp only [zae,zmk,k,b4,simprocAttr]
theorem Zhd (A:XE E){op:Int}(ho:op=7 ∨ op=8){a b:GVal}(hc:lcall E 114 [a.arg,b.arg] []=some (.d (.i .i64 (zda a b)),[])):lcall E 287 [.d (.i .i64 op),.d (.l 4 [a.row,b.row])] []=some ((zl5 op a b).arg,[]):=by
 have t0:=zim A (decide (zda a b=0))
 have t1:=zim A (decide (zda a b < 0))
 unfold zl5
 rw [if_neg (by omega)]
 rw [zas,zas]
 refine zat A.e287 ?_
 rcases ho with rfl | rfl
 ·rw [if_pos rfl]
  simp only [zae,zmk,hc,t0,simprocAttr]
  rfl
 ·rw [if_neg (by decide),if_pos rfl]
  simp only [zae,zmk,hc,t1,simprocAttr]
  rfl
theorem Zhe (A:XE E){op:Int}(ho:op=9 ∨ op=10)(a b:GVal):lcall E 287 [.d (.i .i64 op),.d (.l 4 [a.row,b.row])] []=some ((zl5 op a b).arg,[]):=by
 have s:=Zhy A op ho a b
 unfold zl5
 rw [if_neg (by omega),if_neg (by omega),if_neg (by omega),if_pos ho]
 refine zat A.e287 ?_
 rcases ho with rfl | rfl
 ·simp only [zae,zmk,s,simprocAttr]
 ·simp only [zae,zmk,s,simprocAttr]
theorem of_not (A:XE E)(a:GVal):lcall E 287 [.d (.i .i64 11),.d (.l 4 [a.row])] []=some ((zej 11 a a).arg,[]):=by
 have s:=Zhx A a
 refine zat A.e287 ?_
 simp only [zae,zmk,s,simprocAttr]
theorem Zhf (A:XE E)(a:GVal):lcall E 287 [.d (.i .i64 15),.d (.l 4 [a.row])] []=some ((ze3 a).arg,[]):=by
 have s:=z1r A a
 rw [zas]
 refine zat A.e287 ?_
 simp only [zae,zmk,s,simprocAttr]
theorem Zhg (A:XE E){a b:GVal}(ha:szN a ≤ 500)(hb:szN b ≤ 500):lcall E 287 [.d (.i .i64 13),.d (.l 4 [a.row,b.row])] []=some ((ztv a b).arg,[]):=by
 have s:=Zhw A ha hb
 rw [zas,zas]
 refine zat A.e287 ?_
 simp only [zae,zmk,s,simprocAttr]
 rfl
theorem z91 (A:XE E)(l:List GVal):lcall E 287 [.d (.i .i64 14),.d (.l 4 (zab l))] []=some ((GVal.mk 4 0 [] l).arg,[]):=by
 refine zat A.e287 ?_
 simp only [zae,zmk,simprocAttr]
 rfl
theorem z0w (A:XE E)(l:List GVal):lcall E 287 [.d (.i .i64 21),.d (.l 4 (zab l))] []=some ((GVal.mk 5 0 [] []).arg,[])∧lcall E 287 [.d (.i .i64 22),.d (.l 4 (zab l))] []=some ((GVal.mk 6 0 [] []).arg,[]):=by
 refine ⟨zat A.e287 ?_,zat A.e287 ?_⟩
 ·simp only [zae,zmk,simprocAttr]
  rfl
 ·simp only [zae,zmk,simprocAttr]
  rfl
theorem zp3 (A:XE E){op:Int}(ho:op=16 ∨ op=17 ∨ op=18){l:List GVal}{v:GVal}(s:lcall E 303 [.d (.i .i64 op),.d (.l 4 (zab l))] []=some (v.arg,[])):lcall E 287 [.d (.i .i64 op),.d (.l 4 (zab l))] []=some (v.arg,[]):=by
 refine zat A.e287 ?_
 rcases ho with rfl | rfl | rfl
 ·simp only [zae,zmk,s,simprocAttr]
 ·simp only [zae,zmk,s,simprocAttr]
 ·simp only [zae,zmk,s,simprocAttr]
theorem Zhh (A:XE E)(hins:z5v E){op:Int}(ho:op=19 ∨ op=20){a b:GVal}(ha:szN a ≤ 500)(hb:szN b ≤ 500)(hc:Ord a):lcall E 287 [.d (.i .i64 op),.d (.l 4 [a.row,b.row])] []=some ((setG op a b).arg,[]):=by
 have s:=Zhz A hins op ha hb hc.1
 rw [zas,zas]
 refine zat A.e287 ?_
 rcases ho with rfl | rfl
 ·simp only [zae,zmk,s,simprocAttr]
  rfl
 ·simp only [zae,zmk,s,simprocAttr]
  rfl
def Zhi (op:Int)(l:List GVal):Prop:=(zam op=(l.length:Int) ∨ op=14)∧4 ≤ op∧op ≠ 12∧op ≤ 22∧l.length ≤ 100
theorem Zj0 (A:XE E)(hins:z5v E)(hf:ztu E)(hcmp:∀ (a b:GVal),Small a→Small b→lcall E 114 [a.arg,b.arg] []=some (.d (.i .i64 (zda a b)),[])){op:Int}{l:List GVal}(hl:∀ x ∈ l,szN x ≤ 60∧Ord x)(har:Zhi op l) :
  lcall E 287 [.d (.i .i64 op),.d (.l 4 (zab l))] []=some ((ofG op l).arg,[]):=by
 obtain ⟨h1,h2,h3,h4,h5⟩:=har
 unfold ofG
 by_cases h21:op=21
 ·subst h21; exact (z0w A l).1
 by_cases h22:op=22
 ·subst h22; exact (z0w A l).2
 by_cases h14:op=14
 ·subst h14; exact z91 A l
 rw [if_neg h21,if_neg h22,if_neg h14]
 have h1:zam op=(l.length:Int):=by rcases h1 with h | h; exact h; exact absurd h h14
 by_cases h11:op=11
 ·subst h11
  have e:l.length=1:=by have:zam 11=1:=rfl; omega
  match l,e with
  | [a],_=>exact of_not A a
 by_cases h15:op=15
 ·subst h15
  have e:l.length=1:=by have:zam 15=1:=rfl; omega
  match l,e with
  | [a],_=>exact Zhf A a
 by_cases h16:op=16
 ·subst h16
  have e:l.length=3:=by have:zam 16=3:=rfl; omega
  match l,e,hl with
  | [m,k,v],_,hl =>
   obtain ⟨hm1,hm2⟩:=hl m (by simp)
   simp only
   by_cases hk:m.kind=6∧k.kind=3
   ·rw [if_pos hk]
    refine zp3 A (.inl rfl) ?_
    exact Zh2 A hf (by omega) hk.1 hk.2 (hm2.2 hk.1).1 (fun x hx=>by have:=(hm2.2 hk.1).2 x hx; omega)
   ·rw [if_neg hk]
    refine zp3 A (.inl rfl) (zom A 16 (by simp) (by simp) ?_)
    simp only [zez,Bool.and_true]
    by_cases e1:m.kind=6 <;> by_cases e2:k.kind=3 <;> simp_all
 have e:zam op=2:=by
  have:4 ≤ op∧op ≤ 22:=⟨h2,h4⟩
  unfold zam
  rw [if_neg (by omega),if_neg (by omega),if_neg (by omega),if_neg (by omega),if_neg h21,if_neg h22,if_neg h11,if_neg h15,if_neg h3,if_neg h16,if_neg h14,if_pos (by omega)]
 have e:l.length=2:=by omega
 match l,e,hl with
 | [a,b],_,hl =>
  obtain ⟨ha1,ha2⟩:=hl a (by simp)
  obtain ⟨hb1,hb2⟩:=hl b (by simp)
  simp only
  by_cases o1:op=4 ∨ op=5 ∨ op=6
  ·exact Zhc A o1 a b
  by_cases o2:op=7 ∨ op=8
  ·exact Zhd A o2 (hcmp a b (zeh a (by omega)) (zeh b (by omega)))
  by_cases o3:op=9 ∨ op=10
  ·exact Zhe A o3 a b
  unfold zl5
  rw [if_neg o1,if_neg (fun h=>o2 (.inl h)),if_neg (fun h=>o2 (.inr h)),if_neg o3]
  by_cases o4:op=13
  ·subst o4; exact Zhg A (by omega) (by omega)
  rw [if_neg o4]
  have kb:¬ (a.kind=6∧b.kind=3)→zez [a,b] [6,3]=false:=fun hk=>by
   simp only [zez,Bool.and_true]
   by_cases e1:a.kind=6 <;> by_cases e2:b.kind=3 <;> simp_all
  by_cases o5:op=17
  ·subst o5
   rw [if_pos rfl]
   by_cases hk:a.kind=6∧b.kind=3
   ·rw [if_pos hk]
    exact zp3 A (.inr (.inl rfl)) (Zh1 A hf (by omega) hk.1 hk.2 (ha2.2 hk.1).1 (ha2.2 hk.1).2)
   ·rw [if_neg hk]
    exact zp3 A (.inr (.inl rfl)) (zom A 17 (by simp) (by simp) (kb hk))
  rw [if_neg o5]
  by_cases o6:op=18
  ·subst o6
   rw [if_pos rfl]
   by_cases hk:a.kind=6∧b.kind=3
   ·rw [if_pos hk]
    exact zp3 A (.inr (.inr rfl)) (Zh0 A hf (by omega) hk.1 hk.2 (ha2.2 hk.1).1 (fun x hx=>by have:=(ha2.2 hk.1).2 x hx; omega))
   ·rw [if_neg hk]
    exact zp3 A (.inr (.inr rfl)) (zom A 18 (by simp) (by simp) (kb hk))
  rw [if_neg o6]
  exact Zhh A hins (by omega) (by omega) (by omega) ha2
open Go
def zbb (vs:List (List GVal)):List (List D):=vs.map fun l=>[.l 4 (zab l)]
def atD {α:Type}(l:List α)(i:Int)(z:α):α:=if 0 ≤ i then (l[i.toNat]?).getD z else z
def inB {α:Type}(l:List α)(i:Int):Bool:=decide (0 ≤ i) && decide (i < l.length)
abbrev rdV (vs:List (List GVal))(ts:List (List UInt8)):V:=.agg [.d (.l 1 (zbb vs)),.d (.l 1 (ts.map zc1))]
def zgj:GVal:=.mk 0 0 [] []
theorem zod {α:Type}{l:List α}{i:Int}{z:α}(h0:0 ≤ i)(h1:i < l.length):l[i.toNat]?=some (atD l i z):=by
 unfold atD
 rw [if_pos h0,Qd (by omega)]; rfl
theorem zjp {α:Type}{l:List α}{i:Int}{z:α}(h:¬ (0 ≤ i∧i < l.length)):atD l i z=z:=by
 unfold atD
 by_cases h0:0 ≤ i
 ·rw [if_pos h0,Qe (by omega)]; rfl
 ·rw [if_neg h0]
theorem z49 (A:XE E)(vs:List (List GVal))(i:Int):lcall E 292 [.d (.l 1 (zbb vs)),.d (.i .i64 i)] []=some (.tup [.d (.l 4 (zab (atD vs i []))),.d (.b (inB vs i))],[]):=by
 have hl:(zbb vs).length=vs.length:=by simp [zbb]
 refine zat A.e292 ?_
 by_cases h0:i < 0
 ·rw [zjp (by omega),show inB vs i=false by unfold inB; rw [decide_eq_false (by omega),Bool.false_and]]
  simp only [zae,Za8,eq_true h0,simprocAttr]
  rfl
 ·have h0':0 ≤ i:=by omega
  by_cases h1:i ≥ (vs.length:Int)
  ·rw [zjp (by omega),show inB vs i=false by unfold inB; rw [decide_eq_false (p:=i < _) (by omega),Bool.and_false]]
   simp only [zae,Za8,h0,hl,eq_true h1,simprocAttr]
   rfl
  ·have g:=zod (l:=vs) (z:=[]) h0' (by omega)
   have gr:(zbb vs)[i.toNat]?=some [.l 4 (zab (atD vs i []))]:=by unfold zbb; rw [List.getElem?_map,g]; rfl
   rw [show inB vs i=true by unfold inB; rw [Ql h0',Ql (by omega),Bool.true_and]]
   simp only [zae,Za8,h0,hl,h1,eq_true h0',gr,simprocAttr]
theorem z5a (A:XE E)(l:List GVal)(i:Int):lcall E 293 [.d (.l 4 (zab l)),.d (.i .i64 i)] []=some (.tup [(atD l i zgj).arg,.d (.b (inB l i))],[]):=by
 have hl:=zad l
 refine zat A.e293 ?_
 by_cases h0:i < 0
 ·rw [zjp (by omega),show inB l i=false by unfold inB; rw [decide_eq_false (by omega),Bool.false_and]]
  simp only [zae,Za9,eq_true h0,simprocAttr]
  rfl
 ·have h0':0 ≤ i:=by omega
  by_cases h1:i ≥ (l.length:Int)
  ·rw [zjp (by omega),show inB l i=false by unfold inB; rw [decide_eq_false (p:=i < _) (by omega),Bool.and_false]]
   simp only [zae,Za9,h0,hl,eq_true h1,simprocAttr]
   rfl
  ·have g:=zod (l:=l) (z:=zgj) h0' (by omega)
   have gr:(zab l)[i.toNat]?=some (atD l i zgj).row:=by rw [zaw,g]; rfl
   rw [zas] at gr
   rw [show inB l i=true by unfold inB; rw [Ql h0',Ql (by omega),Bool.true_and]]
   simp only [zae,Za9,h0,hl,h1,eq_true h0',gr,simprocAttr]
theorem z5b (A:XE E)(l:List (List UInt8))(i:Int):lcall E 294 [.d (.l 1 (l.map zc1)),.d (.i .i64 i)] []=some (.tup [.d (.s (atD l i [])),.d (.b (inB l i))],[]):=by
 have hl:(l.map zc1).length=l.length:=by simp
 refine zat A.e294 ?_
 by_cases h0:i < 0
 ·rw [zjp (by omega),show inB l i=false by unfold inB; rw [decide_eq_false (by omega),Bool.false_and]]
  simp only [zae,Zba,eq_true h0,simprocAttr]
 ·have h0':0 ≤ i:=by omega
  by_cases h1:i ≥ (l.length:Int)
  ·rw [zjp (by omega),show inB l i=false by unfold inB; rw [decide_eq_false (p:=i < _) (by omega),Bool.and_false]]
   simp only [zae,Zba,h0,hl,eq_true h1,simprocAttr]
  ·have g:=zod (l:=l) (z:=[]) h0' (by omega)
   have gr:(l.map zc1)[i.toNat]?=some [.s (atD l i [])]:=by rw [List.getElem?_map,g]; rfl
   rw [show inB l i=true by unfold inB; rw [Ql h0',Ql (by omega),Bool.true_and]]
   simp only [zae,Zba,h0,hl,h1,eq_true h0',gr,simprocAttr]
def zrs (vs:List (List GVal))(occ attr:Int):GVal:=if inB (atD vs occ []) attr then atD (atD vs occ []) attr zgj else zef 7
theorem Zhj (A:XE E)(vs:List (List GVal))(ts:List (List UInt8))(e:Exp):lcall E 284 [rdV vs ts,e.arg] []=some ((zrs vs e.occ e.attr).arg,[]):=by
 have a1:=z49 A vs e.occ
 have a2:=z5a A (atD vs e.occ []) e.attr
 have b7:=zey A 7
 refine zat A.e284 ?_
 unfold zrs
 cases h:inB (atD vs e.occ []) e.attr with
 | true =>
  rw [h] at a2
  rw [if_pos rfl]
  simp only [zae,Zfn,a1,a2,simprocAttr]
 | false =>
  rw [h] at a2
  rw [if_neg (by simp)]
  simp only [zae,Zfn,a1,a2,b7,simprocAttr]
def zoy:List UInt8:=[48,49,50,51,52,53,54,55,56,57]
theorem zwj (c:UInt8):zoy.contains c=true ↔ (48 ≤ c.toNat∧c.toNat ≤ 57):=by
 constructor
 ·intro h
  simp only [zoy,List.contains_cons,List.contains_nil,Bool.or_false,Bool.or_eq_true,beq_iff_eq] at h
  rcases h with rfl | rfl | rfl | rfl | rfl | rfl | rfl | rfl | rfl | rfl <;> decide
 ·rintro ⟨h1,h2⟩
  have:c=UInt8.ofNat c.toNat:=by simp
  generalize c.toNat=n at *
  subst this
  have:n=48 ∨ n=49 ∨ n=50 ∨ n=51 ∨ n=52 ∨ n=53 ∨ n=54 ∨ n=55 ∨ n=56 ∨ n=57:=by omega
  rcases this with rfl | rfl | rfl | rfl | rfl | rfl | rfl | rfl | rfl | rfl <;> rfl
def zhj (x:List UInt8):Bool:=x.all fun c=>zoy.contains c
theorem ztk:∀ {x:List UInt8},zfx zoy x=[] ↔ zhj x=true
 | []=>by simp [zfx,zhj]
 | c :: r=>by
  simp only [zfx,zhj,List.all_cons]
  cases h:zoy.contains c with
  | true=>simpa [zhj] using ztk (x:=r)
  | false=>simp
theorem zoe:∀ {x:List UInt8} {c:UInt8},c ∈ x→zoy.contains c=false→c ∈ zfx zoy x
 | d :: r,c,h,hc=>by
  simp only [zfx]
  rcases List.mem_cons.1 h with rfl | h
  ·rw [hc]; simp
  ·cases zoy.contains d with
   | true=>simpa using zoe h hc
   | false=>simp [h]
theorem zwk (x:List UInt8):zfx zoy (zfx zoy x.reverse).reverse=[] ↔ zhj x=true:=by
 constructor
 ·intro h
  unfold zhj
  rw [List.all_eq_true]
  intro c hc
  cases hd:zoy.contains c with
  | true=>rfl
  | false =>
   have h1:c ∈ zfx zoy x.reverse:=zoe (by simpa using hc) hd
   have h2:c ∈ zfx zoy (zfx zoy x.reverse).reverse:=zoe (by simpa using h1) hd
   rw [h] at h2; cases h2
 ·intro h
  have:zfx zoy x.reverse=[]:=ztk.2 (by unfold zhj at *; rw [List.all_reverse]; exact h)
  rw [this]; rfl
theorem zp4:∀ (x:List UInt8) (n:Nat),zhj x=true→∃ m,zfd n x=some m
 | [],n,_=>⟨n,rfl⟩
 | c :: r,n,h=>by
  simp only [zhj,List.all_cons,Qi] at h
  simp only [zfd]
  rw [if_pos ((zwj c).1 h.1)]
  exact zp4 r _ h.2
theorem zp5:∀ (x:List UInt8) (n:Nat),zhj x=false→zfd n x=none
 | [],n,h=>by cases h
 | c :: r,n,h=>by
  simp only [zfd]
  by_cases hc:48 ≤ c.toNat∧c.toNat ≤ 57
  ·rw [if_pos hc]
   refine zp5 r _ ?_
   simp only [zhj,List.all_cons,(zwj c).2 hc,Bool.true_and] at h
   exact h
  ·rw [if_neg hc]
def zh5 (ts:List (List UInt8))(op occ:Int):GVal:=if inB ts occ then (if op=2 then .mk 3 0 (atD ts occ []) [] else match zgq (atD ts occ []) with | some m=>zok m | none=>zef 2) else zef 7
theorem z92 (A:XE E)(vs:List (List GVal))(ts:List (List UInt8))(e:Exp)(hlen:∀ s ∈ ts,s.length ≤ 1000000):lcall E 285 [rdV vs ts,e.arg] []=some ((zh5 ts e.op e.occ).arg,[]):=by
 have a1:=z5b A ts e.occ
 have b7:=zey A 7
 have b2:=zey A 2
 refine zat A.e285 ?_
 unfold zh5
 cases h:inB ts e.occ with
 | false =>
  rw [h] at a1
  rw [if_neg (by simp)]
  simp only [zae,z3i,a1,b7,simprocAttr]
 | true =>
  rw [h] at a1
  rw [if_pos rfl]
  have hsl:(atD ts e.occ []).length ≤ 1000000:=by
   unfold inB at h
   simp only [Qi,Qh] at h
   exact hlen _ (List.mem_of_getElem? (zod h.1 h.2))
  generalize atD ts e.occ []=s at *
  by_cases h2:e.op=2
  ·rw [if_pos h2]
   simp only [zae,z3i,a1,eq_true h2,simprocAttr]
   rfl
  ·rw [if_neg h2]
   by_cases l1:(s.length:Int) < 1
   ·have hn:zgq s=none:=by
     have:s=[]:=List.eq_nil_of_length_eq_zero (by omega)
     subst this; rfl
    rw [hn]
    simp only [zae,z3i,a1,h2,eq_true l1,b2,simprocAttr]
   ·by_cases l2:(s.length:Int) > 18
    ·have hn:zgq s=none:=by
      unfold zgq
      cases s with
      | nil=>rfl
      | cons c r=>simp only; rw [if_neg (by omega)]
     rw [hn]
     simp only [zae,z3i,a1,h2,l1,eq_true l2,b2,simprocAttr]
    ·have t1:lcall E 295 [.d (.s s),.d (.s [48,49,50,51,52,53,54,55,56,57])] []=some (.d (.s (zfx zoy (zfx zoy s.reverse).reverse)),[]):=by
      rw [zff A.e295]
      simp only [zkl]
      rw [if_pos ⟨by decide,by omega,by decide⟩]
      rfl
     have hd:zgq s=zfd 0 s:=by
      unfold zgq
      cases s with
      | nil=>exact absurd (by decide) l1
      | cons c r=>simp only; rw [if_pos (by omega)]
     rw [hd]
     cases ha:zhj s with
     | true =>
      obtain ⟨m,hm⟩:=zp4 s 0 ha
      have p1:lcall E 296 [.d (.s s),.d (.i .i64 10),.d (.i .i64 64)] []=some (.tup [.d (.i .i64 m),.bad],[]):=by
       rw [zff A.e296]
       simp only [zh2,hd,hm]
       rfl
      rw [(zwk s).2 ha] at t1
      rw [hm]
      have vb:zf0 0 V.bad=[]:=rfl
      simp only [zae,z3i,a1,h2,l1,l2,t1,p1,vb,simprocAttr]
      rfl
     | false =>
      rw [zp5 s 0 ha]
      have hne:¬ zfx zoy (zfx zoy s.reverse).reverse=[]:=fun e=>by rw [(zwk s).1 e] at ha; cases ha
      generalize zfx zoy (zfx zoy s.reverse).reverse=tr at *
      simp only [zae,z3i,a1,h2,l1,l2,t1,hne,b2,simprocAttr]
open Go
structure Gd (v:GVal):Prop where
 may:zeq v=true
 size:szN v ≤ 60
theorem zdo {v:GVal}(h:zeq v=true):(1 ≤ v.kind∧v.kind ≤ 7)∧zc0 v.kind v.i=true∧(v.kind=3 ∨ v.s=[])∧zbv v.kind v.l=true∧∀ x ∈ v.l,x.kind ≠ 7∧zeq x=true:=by
 rw [zb0] at h
 simp only [Qi,Qh,Bool.or_eq_true,List.isEmpty_iff] at h
 obtain ⟨⟨⟨⟨h1,h2⟩,h3⟩,h4⟩,h5⟩:=h
 refine ⟨h1,h2,h3,h4,fun x hx=>?_⟩
 rw [zko,List.all_eq_true] at h5
 have:=h5 x hx
 simpa using this
theorem zhk {k i:Int}{s:List UInt8}{l:List GVal}(h1:1 ≤ k∧k ≤ 7)(h2:zc0 k i=true)(h3:k=3 ∨ s=[])(h4:zbv k l=true)(h5:∀ x ∈ l,x.kind ≠ 7∧zeq x=true):zeq (.mk k i s l)=true:=by
 rw [zb0]
 simp only [gF,Qi,Qh,Bool.or_eq_true,List.isEmpty_iff]
 refine ⟨⟨⟨⟨h1,h2⟩,h3⟩,h4⟩, ?_⟩
 rw [zko,List.all_eq_true]
 intro x hx
 obtain ⟨a,b⟩:=h5 x hx
 simp [a,b]
theorem Zj1 {l:List GVal}:zbv 5 l=true ↔ zbe ltV l=true:=by simp [zbv]
theorem Zj2 {l:List GVal}:zbv 6 l=true ↔ (∀ x ∈ l,zcz x=true)∧zbe ltK l=true:=by simp [zbv,List.all_eq_true]
theorem Zj3 {k:Int}{l:List GVal}(h:k ≠ 4)(h5:k ≠ 5)(h6:k ≠ 6):zbv k l=true ↔ l=[]:=by
 unfold zbv
 rw [if_neg h,if_neg h5,if_neg h6]; simp
theorem z0x {v:GVal}(h:zeq v=true):Ord v:=by
 obtain ⟨_,_,_,h4,_⟩:=zdo h
 refine ⟨fun e=>?_,fun e=>?_⟩
 ·rw [e] at h4; exact Zj1.1 h4
 ·rw [e] at h4
  obtain ⟨a,b⟩:=Zj2.1 h4
  exact ⟨b,fun x hx=>zkq (a x hx)⟩
theorem zdi {e:Int}(h:1 ≤ e∧e ≤ 13):zeq (zef e)=true:=zhk (by decide) (by simp [zc0,h]) (.inr rfl) (by simp [zbv]) (by simp)
theorem zrh (n:Int):zeq (zok n)=true:=zhk (by decide) (by simp [zc0]) (.inr rfl) (by simp [zbv]) (by simp)
theorem zri (b:Bool):zeq (zjr b)=true:=zhk (by decide) (by cases b <;> decide) (.inr rfl) (by simp [zbv]) (by simp)
theorem z93 (s:List UInt8):zeq (.mk 3 0 s [])=true:=zhk (by decide) (by decide) (.inl rfl) (by simp [zbv]) (by simp)
theorem z94 (op a b:Int):zeq (zoz op a b)=true:=by
 unfold zoz
 repeat' split
 all_goals first | exact zdi (by decide) | exact zrh _
theorem ztl (op:Int)(a b:GVal):zeq (zej op a b)=true:=by
 unfold zej
 repeat' split
 all_goals first | exact zdi (by decide) | exact zri _
theorem zxx (a:GVal):zeq (ze3 a)=true:=by
 unfold ze3
 repeat' split
 all_goals first | exact zdi (by decide) | exact zrh _
theorem z95 {a b:GVal}(ha:zeq a=true)(hb:zeq b=true):zeq (ztv a b)=true:=by
 obtain ⟨a1,a2,a3,a4,a5⟩:=zdo ha
 obtain ⟨b1,b2,b3,b4,b5⟩:=zdo hb
 unfold ztv
 split
 ·exact zdi (by decide)
 ·rename_i h
  have hk:a.kind=b.kind:=by rcases Decidable.em (a.kind=b.kind) with e | e; exact e; exact absurd (.inl e) h
  have h34:a.kind=3 ∨ a.kind=4:=by
   rcases Decidable.em (a.kind=3) with e | e
   ·exact .inl e
   ·rcases Decidable.em (a.kind=4) with e4 | e4
    ·exact .inr e4
    ·exact absurd (.inr ⟨e,e4⟩) h
  rcases h34 with e | e
  ·have la:=(Zj3 (by omega) (by omega) (by omega)).1 a4
   have lb:=(Zj3 (by omega) (by omega) (by omega)).1 b4
   rw [la,lb,e]
   exact zhk (by decide) (by decide) (.inl rfl) (by simp [zbv]) (by simp)
  ·rw [e]
   refine zhk (by decide) (by decide) (.inr ?_) (by simp [zbv]) (fun x hx=>?_)
   ·have h1:a.s=[]:=by rcases a3 with h | h; omega; exact h
    have h2:b.s=[]:=by rcases b3 with h | h; omega; exact h
    rw [h1,h2]; rfl
   ·rcases List.mem_append.1 hx with hx | hx
    ·exact a5 x hx
    ·exact b5 x hx
theorem z96 {m k:GVal}(hm:zeq m=true):zeq (zyj m k)=true:=by
 obtain ⟨_,_,_,_,a5⟩:=zdo hm
 unfold zyj
 split
 ·split
  ·rename_i k0 i0 s0 y x r hx
   obtain ⟨_,h2⟩:=a5 _ (List.mem_of_getElem? hx)
   obtain ⟨_,_,_,_,b5⟩:=zdo h2
   exact (b5 x (by simp [GVal.l])).2
  ·exact zdi (by decide)
 ·exact zdi (by decide)
theorem z97 {op:Int}{s v:GVal}(hs:zeq s=true)(hv:zeq v=true)(h7:v.kind ≠ 7):zeq (setG op s v)=true:=by
 obtain ⟨_,_,_,a4,a5⟩:=zdo hs
 unfold setG
 split
 ·rename_i h5
  rw [h5] at a4
  split
  ·exact zri _
  ·refine zhk (by decide) (by decide) (.inr rfl) (Zj1.2 (zp2 (Zj1.1 a4))) (fun x hx=>?_)
   rcases zrf hx with h | rfl
   ·exact a5 x h
   ·exact ⟨h7,hv⟩
 ·exact zdi (by decide)
def z0y:List (List UInt8)→Bool
 | []=>true
 | [_]=>true
 | x :: y :: r=>bytesLess x y && z0y (y :: r)
theorem zlm:∀ (l:List GVal),zbe ltK l=z0y (l.map zfm)
 | []=>rfl
 | [_]=>rfl
 | x :: y :: r=>by
  have:=zlm (y :: r)
  simp only [Qb] at this ⊢
  simp only [zbe,z0y,ltK,this]
theorem zwl (k:List UInt8):∀ (l:List GVal) x,l[zb4 k l]?=some x→bytesLess (zfm x) k=false
 | [],x,hx=>by simp at hx
 | y :: r,x,hx=>by
  simp only [zb4] at hx
  split at hx
  ·exact zwl k r x (by simpa using hx)
  ·rename_i hb; simp at hx; subst hx; simpa using hb
theorem z0z {l:List GVal}(h:zbe ltK l=true)(hp:∀ x ∈ l,zcz x=true){k v:GVal}:zbe ltK (zu6 l k v)=true:=by
 have hkey:zfm (zlp k v)=k.s:=rfl
 unfold zu6
 cases hh:zjo k.s l with
 | true =>
  obtain ⟨x,hx⟩:=zkx hh
  have hlt:zb4 k.s l < l.length:=by
   rcases Qn (zb4 k.s l) l.length with h | h
   ·exact h
   ·rw [Qe h] at hx; cases hx
  have hk:zfm x=k.s:=by
   unfold zjo at hh
   rw [hx] at hh
   simp only [Qi,Qh] at hh
   exact hh.2
  rw [if_pos rfl,zlm]
  have e:l=l.take (zb4 k.s l)++x :: l.drop (zb4 k.s l + 1):=by
   have:=List.getElem?_eq_some_iff.1 hx
   obtain ⟨h1,h2⟩:=this
   rw [← h2,← List.drop_eq_getElem_cons h1,List.take_append_drop]
  have h2:=h
  rw [e,zlm] at h2
  rw [List.map_append,Qb,hkey]
  rw [List.map_append,Qb,hk] at h2
  exact h2
 | false =>
  rw [if_neg (by simp)]
  have hc:=zkp (p:=ltK) (v:=zlp k v) (pos:=zb4 k.s) rfl (fun x r=>by simp only [zb4,ltK,hkey]) l h (fun x hx=>by
   have h1:=zwl k.s l x hx
   have h2:zfm x ≠ k.s:=fun e=>by
    unfold zjo at hh
    rw [hx] at hh
    simp only [e,decide_true,Bool.and_true,decide_eq_false_iff_not] at hh
    have:=zkq (hp x (List.mem_of_getElem? hx))
    omega
   simp only [ltK,hkey]
   rcases zig k.s (zfm x) with h3 | h3 | h3
   ·exact h3
   ·exact absurd h3.symm h2
   ·rw [h1] at h3; cases h3)
  rw [List.append_assoc] at hc
  exact hc
theorem zuv {l:List GVal}{k v x:GVal}(h:x ∈ zu6 l k v):x ∈ l ∨ x=zlp k v:=by
 unfold zu6 at h
 simp only [List.mem_append,List.mem_cons] at h
 rcases h with h | h | h
 ·exact .inl (List.mem_of_mem_take h)
 ·exact .inr h
 ·exact .inl (List.mem_of_mem_drop h)
theorem z98 {m k v:GVal}(hm:zeq m=true)(hk:zeq k=true)(hv:zeq v=true)(h6:m.kind=6)(h3:k.kind=3)(h7:v.kind ≠ 7):zeq (.mk 6 0 [] (zu6 m.l k v))=true:=by
 obtain ⟨_,_,_,a4,a5⟩:=zdo hm
 rw [h6] at a4
 obtain ⟨r1,r2⟩:=Zj2.1 a4
 have hp:zcz (zlp k v)=true:=by
  show (decide ((4:Int)=4) && decide (k.kind=3))=true
  rw [Ql h3]; rfl
 refine zhk (by decide) (by decide) (.inr rfl) (Zj2.2 ⟨fun x hx=>?_,z0z r2 r1⟩) (fun x hx=>?_)
 ·rcases zuv hx with h | rfl
  ·exact r1 x h
  ·exact hp
 ·rcases zuv hx with h | rfl
  ·exact a5 x h
  ·refine ⟨(show (4:Int) ≠ 7 by decide),zhk (by decide) (by decide) (.inr rfl) (by simp [zbv]) (fun x hx=>?_)⟩
   rcases List.mem_cons.1 hx with rfl | hx
   ·exact ⟨by omega,hk⟩
   ·rcases List.mem_cons.1 hx with rfl | hx
    ·exact ⟨h7,hv⟩
    ·cases hx
theorem Zhk {op:Int}{l:List GVal}(hl:∀ x ∈ l,zeq x=true∧x.kind ≠ 7):zeq (ofG op l)=true:=by
 unfold ofG
 split
 ·exact zhk (by decide) (by decide) (.inr rfl) (by simp [zbv,zbe]) (by simp)
 split
 ·exact zhk (by decide) (by decide) (.inr rfl) (by simp [zbv,zbe]) (by simp)
 split
 ·exact zhk (by decide) (by decide) (.inr rfl) (by simp [zbv]) (fun x hx=>⟨(hl x hx).2,(hl x hx).1⟩)
 split
 ·split
  ·exact ztl _ _ _
  ·exact zxx _
 ·rename_i a b
  have ha:=hl a (by simp)
  have hb:=hl b (by simp)
  unfold zl5
  repeat' split
  all_goals first | exact zdi (by decide) | exact z94 _ _ _ | exact zri _ | exact ztl _ _ _ | exact z95 ha.1 hb.1 | exact z96 ha.1 | exact z97 ha.1 hb.1 hb.2
 ·rename_i a b c
  have ha:=hl a (by simp)
  have hb:=hl b (by simp)
  have hc:=hl c (by simp)
  split
  ·rename_i h
   exact z98 ha.1 hb.1 hc.1 h.1 h.2 hc.2
  ·exact zdi (by decide)
 ·exact zdi (by decide)
open Go
def zuw (v:GVal):GVal:=if 60 < szN v then zef 6 else v
def zgk (rs:List GVal):GVal:=match rs with
 | c :: a :: b :: _=>if c.kind=7 then c else if c.kind=2 then (if c.i=0 then b else a) else zef 4
 | _=>zef 1
def zdq:List GVal→Option GVal
 | []=>none
 | x :: r=>if x.kind=7 then some x else zdq r
def zrj (op:Int)(l:List GVal):GVal:=match zdq l with
 | some y=>y
 | none=>ofG op l
def zp6 {α:Type}(n:Int)(rs:List α):List α:=if 0 ≤ n then rs.take n.toNat else rs
def zux (vs:List (List GVal))(ts:List (List UInt8))(op:Int)(v:GVal)(occ attr:Int)(rs:List GVal):GVal :=
 if zam op = -2 ∨ (rs.length:Int) < zam op then zef 1 else if op=0 then v else if op=1 then zrs vs occ attr else if op=2 ∨ op=3 then zh5 ts op occ else if op=12 then zgk rs else zrj op (zp6 (zam op) rs)
mutual
def zb1 (vs:List (List GVal))(ts:List (List UInt8)):Exp→GVal
 | .mk op v occ attr l=>zuw (zux vs ts op v occ attr (z5c vs ts l))
def z5c (vs:List (List GVal))(ts:List (List UInt8)):List Exp→List GVal
 | []=>[]
 | x :: r=>zb1 vs ts x :: z5c vs ts r
end
theorem ztm (vs:List (List GVal))(ts:List (List UInt8)):∀ (l:List Exp),z5c vs ts l=l.map (zb1 vs ts)
 | []=>rfl
 | x :: r=>by simp [z5c,ztm vs ts r]
theorem zms (vs:List (List GVal))(ts:List (List UInt8))(e:Exp):zb1 vs ts e=zuw (zux vs ts e.op e.v e.occ e.attr (e.args.map (zb1 vs ts))):=by
 cases e; simp only [zb1,ztm]; rfl
inductive GdE:Exp→Prop where
 | mk {op:Int} {v:GVal} {occ attr:Int} {l:List Exp} (hv:op=0→Gd v) (hl:∀ x ∈ l,GdE x) (hn:l.length ≤ 15):GdE (.mk op v occ attr l)
theorem GdE.v {e:Exp}(h:GdE e):e.op=0→Gd e.v:=by cases h; assumption
theorem GdE.args {e:Exp}(h:GdE e):∀ x ∈ e.args,GdE x:=by cases h; assumption
theorem GdE.len {e:Exp}(h:GdE e):e.args.length ≤ 15:=by cases h; assumption
structure GdR (vs:List (List GVal))(ts:List (List UInt8)):Prop where
 vals:∀ l ∈ vs,∀ v ∈ l,Gd v
 texts:∀ s ∈ ts,s.length ≤ 1000000
theorem zkr {e:Int}(h:1 ≤ e∧e ≤ 13):Gd (zef e):=⟨zdi h,by rw [zgt]; simp [zef,gF,szL]⟩
theorem Zhl {v:GVal}(h:zeq v=true):Gd (zuw v):=by
 unfold zuw
 split
 ·exact zkr (by decide)
 ·exact ⟨h,by omega⟩
theorem ze6 {v:GVal}(h:szN v ≤ 60):zuw v=v:=by unfold zuw; rw [if_neg (by omega)]
theorem zdy {x:GVal}:∀ {l:List GVal},zdq l=some x→x ∈ l
 | y :: r,h=>by
  simp only [zdq] at h
  split at h
  ·cases h; simp
  ·exact List.mem_cons_of_mem _ (zdy h)
theorem zks:∀ {l:List GVal},zdq l=none→∀ x ∈ l,x.kind ≠ 7
 | y :: r,h,x,hx=>by
  simp only [zdq] at h
  split at h
  ·cases h
  ·rcases List.mem_cons.1 hx with rfl | hx
   ·assumption
   ·exact zks h x hx
theorem zuy {vs:List (List GVal)}{ts:List (List UInt8)}(hr:GdR vs ts)(occ attr:Int):Gd (zrs vs occ attr):=by
 unfold zrs
 split
 ·rename_i h
  unfold inB at h
  simp only [Qi,Qh] at h
  have h2:=List.mem_of_getElem? (zod (z:=zgj) h.1 h.2)
  by_cases ho:0 ≤ occ∧occ < vs.length
  ·exact hr.vals _ (List.mem_of_getElem? (zod (z:=[]) ho.1 ho.2)) _ h2
  ·rw [zjp ho] at h; simp at h; omega
 ·exact zkr (by decide)
theorem z00 (ts:List (List UInt8))(op occ:Int):zeq (zh5 ts op occ)=true:=by
 unfold zh5
 split
 ·split
  ·exact z93 _
  ·split
   ·exact zrh _
   ·exact zdi (by decide)
 ·exact zdi (by decide)
theorem zrk {α:Type}{n:Int}{rs:List α}:∀ x ∈ zp6 n rs,x ∈ rs:=fun x hx=>by
 unfold zp6 at hx
 split at hx
 ·exact List.mem_of_mem_take hx
 ·exact hx
theorem z5d {vs:List (List GVal)}{ts:List (List UInt8)}(hr:GdR vs ts){op:Int}{v:GVal}{occ attr:Int}{rs:List GVal}(hv:op=0→Gd v)(hrs:∀ x ∈ rs,Gd x):zeq (zux vs ts op v occ attr rs)=true:=by
 unfold zux
 split
 ·exact zdi (by decide)
 split
 ·rename_i h; exact (hv h).may
 split
 ·exact (zuy hr _ _).may
 split
 ·exact z00 _ _ _
 split
 ·unfold zgk
  split
  ·rename_i c a b r _
   repeat' split
   ·exact (hrs c (by simp)).may
   ·exact (hrs b (by simp)).may
   ·exact (hrs a (by simp)).may
   ·exact zdi (by decide)
  ·exact zdi (by decide)
 ·unfold zrj
  split
  ·rename_i y hy
   exact (hrs y (zrk y (zdy hy))).may
  ·rename_i hn
   exact Zhk fun x hx=>⟨(hrs x (zrk x hx)).may,zks hn x hx⟩
theorem z5e {vs:List (List GVal)}{ts:List (List UInt8)}(hr:GdR vs ts):∀ (n:Nat) (e:Exp),sizeOf e < n→GdE e→Gd (zb1 vs ts e):=by
 intro n
 induction n with
 | zero=>intro e h; omega
 | succ n ih =>
  intro e hs he
  rw [zms]
  refine Zhl (z5d hr he.v fun x hx=>?_)
  obtain ⟨y,hy,rfl⟩:=List.mem_map.1 hx
  exact ih y (by have:=zl8 hy; omega) (he.args y hy)
theorem zof {vs:List (List GVal)}{ts:List (List UInt8)}(hr:GdR vs ts){e:Exp}(he:GdE e):Gd (zb1 vs ts e):=z5e hr _ e (Nat.lt_succ_self _) he
structure EvC (E:Nat→Option Fn):Prop where
 code:XE E
 ins:z5v E
 find:ztu E
 cmp:∀ (a b:GVal),Small a→Small b→lcall E 114 [a.arg,b.arg] []=some (.d (.i .i64 (zda a b)),[])
 size:∀ (v:GVal),Small v→szN v ≤ 1000000→lcall E 112 [v.arg] []=some (.d (.i .i64 (szN v)),[])
abbrev bxR (vs:List (List GVal))(ts:List (List UInt8)):Option Obj:=some (.box [.d (.l 1 (zbb vs)),.d (.l 1 (ts.map zc1))])
theorem z01 (A:XE E){vs:List (List GVal)}{ts:List (List UInt8)}{e a b c:Exp}{r:List Exp}(hargs:e.args=c :: a :: b :: r)
  (hc:∀ x ∈ e.args,lcall E 277 [rdV vs ts,x.arg] []=some ((zb1 vs ts x).arg,[])):lcall E 286 [rdV vs ts,e.arg] []=some ((zgk (e.args.map (zb1 vs ts))).arg,[]):=by
 have h1:=hc c (by rw [hargs]; simp)
 have h2:=hc a (by rw [hargs]; simp)
 have h3:=hc b (by rw [hargs]; simp)
 have b4:=zey A 4
 show lcall E 286 [rdV vs ts,.agg [.d (.i .i64 e.op),.d (.i .i64 e.v.kind),.d (.i .i64 e.v.i),.d (.s e.v.s),.d (.l 4 (zab e.v.l)),.d (.i .i64 e.occ),.d (.i .i64 e.attr),.d (.l 8 (e.args.map Exp.row))]] []=_
 rw [hargs]
 simp only [Qb,zgk,zds]
 refine zat A.e286 ?_
 generalize zb1 vs ts c=v at *
 by_cases k7:v.kind=7
 ·rw [if_pos k7]
  simp only [zae,z8e,h1,eq_true k7,simprocAttr]
  rfl
 rw [if_neg k7]
 by_cases k2:v.kind=2
 ·rw [if_pos k2]
  by_cases i0:v.i=0
  ·rw [if_pos i0]
   simp only [zae,z8e,h1,k7,eq_true k2,eq_true i0,h3,simprocAttr]
   exact ⟨by rfl,by rfl⟩
  ·rw [if_neg i0]
   simp only [zae,z8e,h1,k7,eq_true k2,i0,h2,simprocAttr]
   exact ⟨by rfl,by rfl⟩
 ·rw [if_neg k2]
  simp only [zae,z8e,h1,k7,k2,b4,simprocAttr]
  rfl
def zwm:CCode:=match zrq.body with
 | .seq _ (.seq _ (.seq (.block _ (.seq _ (.cond _ _ (.seq _ (.cond _ _ (.seq _ (.cond _ _ (.seq _ (.cond _ _ (.seq _ (.cond _ _ (.seq _ (.seq _ (.seq _ (.seq (.seq _ (.block _ (.loop _ c))) _))))))))))))))) _))=>c
 | _=>.skip
abbrev bxE (e:Exp):Option Obj:=some (.box [.d (.i .i64 e.op),.d (.i .i64 e.v.kind),.d (.i .i64 e.v.i),.d (.s e.v.s),.d (.l 4 (zab e.v.l)),.d (.i .i64 e.occ),.d (.i .i64 e.attr),.d (.l 8 (e.args.map Exp.row))])
abbrev bxV (v:GVal):Option Obj:=some (.box [.d (.i .i64 v.kind),.d (.i .i64 v.i),.d (.s v.s),.d (.l 4 (zab v.l))])
abbrev bxZ:Option Obj:=some (.box [.d (.i .i64 0),.d (.i .i64 0),.d (.s []),.d (.l 4 [])])
theorem z02 (out:List GVal)(v:GVal):zab out++[[.i .i64 v.kind,.i .i64 v.i,.s v.s,.l 4 (zab v.l)]]=zab (out++[v]):=by
 rw [zcc]; simp [zab,zas]
set_option maxHeartbeats 1000000 in
theorem z03 {vs:List (List GVal)}{ts:List (List UInt8)}{e:Exp}{l:List Exp}(hl:l.length ≤ 100)(hc:∀ x ∈ l,lcall E 277 [rdV vs ts,x.arg] []=some ((zb1 vs ts x).arg,[])){Q:Ex→St→Prop} :
  ∀ (m i:Nat) (out:List GVal),i + m=l.length→out.length=i →
  (∀ y tm tl,zdq ((l.drop i).map (zb1 vs ts))=some y→zba tm 4 = .ptr 2 0→Q .ret ⟨tm,bxR vs ts :: bxE e :: bxV y :: tl⟩) →
  (∀ tm,zdq ((l.drop i).map (zb1 vs ts))=none→zba tm 3 = .ptr 1 0→zba tm 4 = .ptr 2 0→zba tm 7 = .own 3 0 4 (zab (out++(l.drop i).map (zb1 vs ts)))→Q (.exit 1) ⟨tm,[bxR vs ts,bxE e,bxZ,some (.tok 0 4)]⟩) →
  LX E zwm ⟨[2,3,4,7,21,22,23],[7],[],[],[(4,3)],true⟩ 4 ⟨[(2,.ptr 0 0),(3,.ptr 1 0),(4,.ptr 2 0),(7,.own 3 0 4 (zab out)),(21,.d (.l 8 (l.map Exp.row))),(22,.d (.i .i64 l.length)),(23,.d (.i .i64 i))],[bxR vs ts,bxE e,bxZ,some (.tok 0 4)]⟩ Q:=by
 intro m
 induction m with
 | zero =>
  intro i out hi ho hb hg
  have hn:¬ ((i:Int) < l.length):=by omega
  rw [List.drop_eq_nil_of_le (by omega)] at hg
  simp only [Qc,List.append_nil] at hg
  refine zan ?_
  simp only [zae,zbo,zwm,zrq,hn,simprocAttr]
  exact hg _ rfl rfl rfl rfl
 | succ m ih =>
  intro i out hi ho hb hg
  have hy:(i:Int) < l.length:=by omega
  have la:i < l.length:=by omega
  have h0:(0:Int) ≤ i:=by omega
  have ga:(l.map Exp.row)[i]?=some (Exp.row l[i]):=by rw [List.getElem?_map,Qd la]; rfl
  have w:IntKind.i64.wrap ((i:Int) + 1)=((i + 1:Nat):Int):=by rw [i64_in (by omega) (by omega)]; omega
  have c1:=hc _ (List.getElem_mem la)
  rw [List.drop_eq_getElem_cons la] at hb hg
  simp only [Qb,zdq] at hb hg
  generalize l[i]=x at *
  rw [zds] at ga
  generalize zb1 vs ts x=v at *
  have r2:zbi (out.length + 1) 56=true:=by unfold zbi; exact Ql (by omega)
  have gl:=zad out
  refine zan ?_
  by_cases h7:v.kind=7
  ·rw [if_pos h7] at hb
   simp only [zae,zbo,zwm,zrq,eq_true hy,h0,ga,c1,eq_true h7,simprocAttr]
   exact hb _ _ _ rfl rfl
  ·rw [if_neg h7] at hb hg
   simp only [zae,zbo,zwm,zrq,eq_true hy,h0,ga,c1,h7,gl,r2,z02,w,simprocAttr]
   refine ⟨_,rfl,ih (i + 1) (out++[v]) (by omega) (by simp [ho]) hb (fun tm h1 h3 h4 h7=>hg tm h1 h3 h4 ?_)⟩
   rw [h7,List.append_assoc]; rfl
open Go
theorem zuz {op:Int}(h:zam op ≠ -2):0 ≤ op∧op ≤ 22∧(zam op < 0→op=14)∧-1 ≤ zam op:=by
 unfold zam at *
 by_cases h0:op=0
 ·subst h0; decide
 by_cases h1:op=1
 ·subst h1; decide
 by_cases h2:op=2
 ·subst h2; decide
 by_cases h3:op=3
 ·subst h3; decide
 by_cases h21:op=21
 ·subst h21; decide
 by_cases h22:op=22
 ·subst h22; decide
 by_cases h11:op=11
 ·subst h11; decide
 by_cases h15:op=15
 ·subst h15; decide
 by_cases h12:op=12
 ·subst h12; decide
 by_cases h16:op=16
 ·subst h16; decide
 by_cases h14:op=14
 ·subst h14; decide
 rw [if_neg h0,if_neg h1,if_neg h2,if_neg h3,if_neg h21,if_neg h22,if_neg h11,if_neg h15,if_neg h12,if_neg h16,if_neg h14] at *
 split at h
 ·rename_i hh
  rw [if_pos hh]
  exact ⟨by omega,by omega,fun h=>by omega,by omega⟩
 ·exact absurd rfl h
theorem zu0 {α β:Type}(f:α→β)(n:Int)(l:List α):zp6 n (l.map f)=(zp6 n l).map f:=by
 unfold zp6
 split
 ·rw [List.map_take]
 ·rfl
theorem z04 {α:Type}{n:Int}{l:List α}(h:¬ (l.length:Int) < n):(0 ≤ n→((zp6 n l).length:Int)=n)∧(zp6 n l).length ≤ l.length:=by
 unfold zp6
 split
 ·refine ⟨fun _=>?_, ?_⟩ <;> rw [List.length_take] <;> omega
 ·exact ⟨fun h=>by omega,Nat.le_refl _⟩
theorem z05 {op:Int}{l:List GVal}(h:zam op ≠ -2)(hl:¬ (l.length:Int) < zam op)(h0:op ≠ 0)(h1:op ≠ 1)(h2:op ≠ 2)(h3:op ≠ 3)(h12:op ≠ 12)(hn:l.length ≤ 15):Zhi op (zp6 (zam op) l):=by
 obtain ⟨r1,r2,r3,r4⟩:=zuz h
 obtain ⟨c1,c2⟩:=z04 hl
 refine ⟨?_,by omega,h12,r2,by omega⟩
 by_cases hp:0 ≤ zam op
 ·exact .inl (c1 hp).symm
 ·exact .inr (r3 (by omega))
theorem z99 {l:List GVal}(h:∀ x ∈ l,szN x ≤ 60):szL l ≤ 60 * l.length:=by
 induction l with
 | nil=>simp [szL]
 | cons x r ih =>
  have h1:=h x (by simp)
  have h2:=ih fun y hy=>h y (by simp [hy])
  simp only [szL,List.length_cons]; omega
theorem zog (a b:List GVal):szL (a++b)=szL a + szL b:=by
 induction a with
 | nil=>simp [szL]
 | cons x r ih=>simp only [List.cons_append,szL,ih]; omega
theorem zrl (l:List GVal)(n:Nat):szL (l.take n) + szL (l.drop n)=szL l:=by rw [← zog,List.take_append_drop]
theorem z5f (l:List GVal)(n:Nat):szL (l.drop n) ≤ szL l:=by have:=zrl l n; omega
theorem Zhm (l:List GVal)(v:GVal):szL (ziq l v) ≤ szL l + szN v:=by
 unfold ziq
 have:=zrl l (zdp v l)
 split
 ·split
  ·omega
  ·simp only [zog,szL]; omega
 ·simp only [zog,szL]; omega
theorem Zhn (l:List GVal)(k v:GVal):szL (zu6 l k v) ≤ szL l + (1 + szN k + szN v):=by
 unfold zu6 zlp
 have h1:=zrl l (zb4 k.s l)
 have h2:szL (l.drop (zb4 k.s l + 1)) ≤ szL (l.drop (zb4 k.s l)):=by
  have:=z5f (l.drop (zb4 k.s l)) 1
  rwa [List.drop_drop] at this
 simp only [zog,szL]
 rw [zgt (.mk 4 0 [] [k,v])]
 simp only [gF,szL,List.length_nil]
 split <;> omega
theorem zfe {k i:Int}{s:List UInt8}{l:List GVal}(h:s.length / 16 + szL l ≤ 998):szN (.mk k i s l) ≤ 1000:=by rw [zgt]; simp only [gF]; omega
theorem z06 (n:Int):szN (zok n) ≤ 1000:=zfe (by simp [szL])
theorem zfn (n:Int):szN (zef n) ≤ 1000:=zfe (by simp [szL])
theorem zln (b:Bool):szN (zjr b) ≤ 1000:=zfe (by simp [szL])
theorem zwn {op:Int}{l:List GVal}(hl:∀ x ∈ l,szN x ≤ 60)(hn:l.length ≤ 15):szN (ofG op l) ≤ 1000:=by
 unfold ofG
 split
 ·exact zfe (by simp [szL])
 split
 ·exact zfe (by simp [szL])
 split
 ·exact zfe (by have:=z99 hl; simp; omega)
 split
 ·rename_i a
  split
  ·unfold zej
   repeat' split
   all_goals first | exact zfn _ | exact zln _
  ·unfold ze3
   repeat' split
   all_goals first | exact zfn _ | exact z06 _
 ·rename_i a b
  have ha:=hl a (by simp)
  have hb:=hl b (by simp)
  have za:=ztt a
  have zb:=ztt b
  have sa:=Zhv a
  have sb:=Zhv b
  unfold zl5
  split
  ·split
   ·unfold zoz
    repeat' split
    all_goals first | exact zfn _ | exact z06 _
   ·exact zfn _
  split
  ·exact zln _
  split
  ·exact zln _
  split
  ·unfold zej
   repeat' split
   all_goals first | exact zfn _ | exact zln _
  split
  ·unfold ztv
   split
   ·exact zfn _
   ·exact zfe (by rw [zog,Qg]; omega)
  split
  ·split
   ·unfold zyj
    split
    ·split
     ·rename_i k0 i0 s0 y x r hx
      have h1:=zre (List.mem_of_getElem? hx)
      rw [zgt] at h1
      simp only [gF,szL] at h1
      omega
     ·exact zfn _
    ·exact zfn _
   ·exact zfn _
  split
  ·split
   ·exact zln _
   ·exact zfn _
  ·unfold setG
   split
   ·split
    ·exact zln _
    ·exact zfe (by have:=Zhm a.l b; simp; omega)
   ·exact zfn _
 ·rename_i a b c
  have ha:=hl a (by simp)
  have hb:=hl b (by simp)
  have hc:=hl c (by simp)
  have za:=ztt a
  split
  ·exact zfe (by have:=Zhn a.l b c; simp; omega)
  ·exact zfn _
 ·exact zfn _
set_option maxHeartbeats 1000000 in
theorem z5g (C:EvC E){vs:List (List GVal)}{ts:List (List UInt8)}(hr:GdR vs ts):∀ (n:Nat) (e:Exp),sizeOf e < n→GdE e→lcall E 277 [rdV vs ts,e.arg] []=some ((zb1 vs ts e).arg,[]):=by
 intro n
 induction n with
 | zero=>intro e h; omega
 | succ n ih =>
  intro e hs he
  have A:=C.code
  have hc:∀ x ∈ e.args,lcall E 277 [rdV vs ts,x.arg] []=some ((zb1 vs ts x).arg,[]):=fun x hx=>ih x (by have:=zl8 hx; omega) (he.args x hx)
  have hg:∀ x ∈ e.args.map (zb1 vs ts),Gd x:=fun x hx=>by
   obtain ⟨y,hy,rfl⟩:=List.mem_map.1 hx
   exact zof hr (he.args y hy)
  have hlen:=he.len
  have hle:(e.args.map (zb1 vs ts)).length=e.args.length:=Qf _
  have t1:=zmu A e.op
  have b1:=zey A 1
  have b6:=zey A 6
  have fin:∀ v:GVal,Small v→szN v ≤ 1000000→lcall E 112 [v.arg] []=some (.d (.i .i64 (szN v)),[]):=C.size
  rw [zms]
  unfold zux
  rw [hle]
  by_cases h2:zam e.op = -2
  ·rw [if_pos (.inl h2),ze6 (zkr (by decide)).size]
   refine zat A.e277 ?_
   simp only [zae,zrq,t1,eq_true h2,b1,simprocAttr]
  by_cases hl:(e.args.length:Int) < zam e.op
  ·rw [if_pos (.inr hl),ze6 (zkr (by decide)).size]
   refine zat A.e277 ?_
   simp only [zae,zrq,t1,h2,Qf,eq_true hl,b1,simprocAttr]
  rw [if_neg (by rintro (h | h); exact h2 h; exact hl h)]
  by_cases h0:e.op=0
  ·rw [if_pos h0]
   have gd:=he.v h0
   have sz:=fin e.v (zeh _ (by have:=gd.size; omega)) (by have:=gd.size; omega)
   rw [ze6 gd.size]
   have hn:¬ (szN e.v:Int) > 60:=by have:=gd.size; omega
   refine zat A.e277 ?_
   simp only [zae,zrq,t1,h2,Qf,hl,eq_true h0,sz,hn,simprocAttr]
  rw [if_neg h0]
  by_cases h1:e.op=1
  ·rw [if_pos h1]
   have rf:=Zhj A vs ts e
   have gd:=zuy hr e.occ e.attr
   rw [ze6 gd.size]
   generalize zrs vs e.occ e.attr=v at *
   have sz:=fin v (zeh _ (by have:=gd.size; omega)) (by have:=gd.size; omega)
   have hn:¬ (szN v:Int) > 60:=by have:=gd.size; omega
   refine zat A.e277 ?_
   simp only [zae,zrq,t1,h2,Qf,hl,h0,eq_true h1,rf,sz,hn,simprocAttr]
  rw [if_neg h1]
  by_cases h23:e.op=2 ∨ e.op=3
  ·rw [if_pos h23]
   have tx:=z92 A vs ts e hr.texts
   have hsz:szN (zh5 ts e.op e.occ) ≤ 1000000∧(zh5 ts e.op e.occ).l=[]:=by
    unfold zh5
    split
    ·rename_i hh
     unfold inB at hh
     simp only [Qi,Qh] at hh
     have hsl:=hr.texts _ (List.mem_of_getElem? (zod (z:=[]) hh.1 hh.2))
     split
     ·rw [zgt]; simp only [gF,szL]; exact ⟨by omega,trivial⟩
     ·split
      ·exact ⟨by have:=z06 (‹Nat›:Nat); omega,rfl⟩
      ·exact ⟨by have:=zfn 2; omega,rfl⟩
    ·exact ⟨by have:=zfn 7; omega,rfl⟩
   generalize zh5 ts e.op e.occ=v at *
   have sm:Small v:=by
    have:Small (.mk v.kind v.i v.s v.l):=zih (by rw [hsz.2]; simp) (by rw [hsz.2]; simp)
    rwa [GVal.eta] at this
   have sz:=fin v sm hsz.1
   unfold zuw
   by_cases h60:60 < szN v
   ·rw [if_pos h60]
    have hy:(szN v:Int) > 60:=by omega
    refine zat A.e277 ?_
    by_cases e2:e.op=2
    ·simp only [zae,zrq,t1,h2,Qf,hl,h0,h1,eq_true e2,tx,sz,eq_true hy,b6,simprocAttr]
    ·have e3:e.op=3:=by omega
     simp only [zae,zrq,t1,h2,Qf,hl,h0,h1,e2,eq_true e3,tx,sz,eq_true hy,b6,simprocAttr]
   ·rw [if_neg h60]
    have hn:¬ (szN v:Int) > 60:=by omega
    refine zat A.e277 ?_
    by_cases e2:e.op=2
    ·simp only [zae,zrq,t1,h2,Qf,hl,h0,h1,eq_true e2,tx,sz,hn,simprocAttr]
    ·have e3:e.op=3:=by omega
     simp only [zae,zrq,t1,h2,Qf,hl,h0,h1,e2,eq_true e3,tx,sz,hn,simprocAttr]
  rw [if_neg h23]
  have e2:¬ e.op=2:=fun h=>h23 (.inl h)
  have e3:¬ e.op=3:=fun h=>h23 (.inr h)
  by_cases h12:e.op=12
  ·rw [if_pos h12]
   have ht:zam e.op=3:=by rw [h12]; rfl
   obtain ⟨c,a,b,r,ha⟩:∃ c a b r,e.args=c :: a :: b :: r:=by
    match hx:e.args with
    | []=>rw [hx,ht] at hl; simp at hl
    | [_]=>rw [hx,ht] at hl; simp at hl
    | [_,_]=>rw [hx,ht] at hl; simp at hl
    | c :: a :: b :: r=>exact ⟨c,a,b,r,rfl⟩
   have ch:=z01 A ha hc
   have gd:szN (zgk (e.args.map (zb1 vs ts))) ≤ 60:=by
    rw [ha] at hg ⊢
    simp only [Qb,zgk] at hg ⊢
    repeat' split
    ·exact (hg _ (by simp)).size
    ·exact (hg _ (by simp)).size
    ·exact (hg _ (by simp)).size
    ·exact (zkr (by decide)).size
   rw [ze6 gd]
   generalize zgk (e.args.map (zb1 vs ts))=v at *
   have sz:=fin v (zeh _ (by omega)) (by omega)
   have hn:¬ (szN v:Int) > 60:=by omega
   refine zat A.e277 ?_
   simp only [zae,zrq,t1,h2,Qf,hl,h0,h1,e2,e3,eq_true h12,ch,sz,hn,simprocAttr]
  rw [if_neg h12,zu0]
  have har:=z05 (l:=e.args.map (zb1 vs ts)) h2 (by rw [hle]; exact hl) h0 h1 e2 e3 h12 (by rw [hle]; exact hlen)
  rw [zu0] at har
  have hcl:=(z04 hl).2
  have hgc:∀ x ∈ (zp6 (zam e.op) e.args).map (zb1 vs ts),Gd x:=fun x hx=>by
   rw [← zu0] at hx
   exact hg x (zrk x hx)
  have hcc:∀ x ∈ zp6 (zam e.op) e.args,lcall E 277 [rdV vs ts,x.arg] []=some ((zb1 vs ts x).arg,[]):=fun x hx=>hc x (zrk x hx)
  have ofk:=Zj0 A C.ins C.find C.cmp (op:=e.op) (l:=(zp6 (zam e.op) e.args).map (zb1 vs ts)) (fun x hx=>⟨(hgc x hx).size,z0x (hgc x hx).may⟩) har
  have ofs:=zwn (op:=e.op) (l:=(zp6 (zam e.op) e.args).map (zb1 vs ts)) (fun x hx=>(hgc x hx).size) (by rw [Qf]; omega)
  have sz:=fin _ (zeh _ ofs) (by omega)
  have done:∀ (tm:List (Nat × V)),True:=fun _=>trivial
  unfold zrj
  by_cases hp:0 ≤ zam e.op
  ·have hb:zbr none (some (.d (.i .i64 (zam e.op)))) e.args.length=some (0,(zam e.op).toNat):=by
    show (if 0 ≤ (0:Int)∧(0:Int) ≤ zam e.op∧zam e.op ≤ (e.args.length:Int) then some ((0:Int).toNat,(zam e.op).toNat) else none)=_
    rw [if_pos ⟨Int.le_refl _,hp,by omega⟩]; rfl
   have hcut:zp6 (zam e.op) e.args=e.args.take (zam e.op).toNat:=by unfold zp6; rw [if_pos hp]
   rw [hcut] at har hgc hcc ofk ofs sz hcl ⊢
   have hge:zam e.op ≥ 0:=hp
   refine zat A.e277 ?_
   simp only [zae,zrq,t1,h2,Qf,hl,h0,h1,e2,e3,h12,eq_true hge,hb,← List.map_take,simprocAttr]
   refine z03 (by omega) hcc ((e.args.take (zam e.op).toNat).length) 0 [] (by omega) rfl (fun y tm tl hf h4=>?_) (fun tm hf h3 h4 h7=>?_)
   ·rw [List.drop_zero] at hf
    rw [hf]
    rw [ze6 (hgc y (zdy hf)).size]
    simp only [zae,h4,simprocAttr]
   ·rw [List.drop_zero] at hf h7
    rw [List.nil_append] at h7
    rw [hf]
    simp only
    unfold zuw
    generalize ofG e.op ((e.args.take (zam e.op).toNat).map (zb1 vs ts))=v at *
    by_cases h60:60 < szN v
    ·rw [if_pos h60]
     have hy:(szN v:Int) > 60:=by omega
     simp only [zae,h3,h4,h7,ofk,sz,eq_true hy,b6,simprocAttr]
    ·rw [if_neg h60]
     have hn:¬ (szN v:Int) > 60:=by omega
     simp only [zae,h3,h4,h7,ofk,sz,hn,simprocAttr]
  ·have hcut:zp6 (zam e.op) e.args=e.args:=by unfold zp6; rw [if_neg hp]
   rw [hcut] at har hgc hcc ofk ofs sz hcl ⊢
   have hge:¬ zam e.op ≥ 0:=hp
   refine zat A.e277 ?_
   simp only [zae,zrq,t1,h2,Qf,hl,h0,h1,e2,e3,h12,hge,simprocAttr]
   refine z03 (by omega) hcc (e.args.length) 0 [] (by omega) rfl (fun y tm tl hf h4=>?_) (fun tm hf h3 h4 h7=>?_)
   ·rw [List.drop_zero] at hf
    rw [hf]
    rw [ze6 (hgc y (zdy hf)).size]
    simp only [zae,h4,simprocAttr]
   ·rw [List.drop_zero] at hf h7
    rw [List.nil_append] at h7
    rw [hf]
    simp only
    unfold zuw
    generalize ofG e.op (e.args.map (zb1 vs ts))=v at *
    by_cases h60:60 < szN v
    ·rw [if_pos h60]
     have hy:(szN v:Int) > 60:=by omega
     simp only [zae,h3,h4,h7,ofk,sz,eq_true hy,b6,simprocAttr]
    ·rw [if_neg h60]
     have hn:¬ (szN v:Int) > 60:=by omega
     simp only [zae,h3,h4,h7,ofk,sz,hn,simprocAttr]
open Go
def z07:CCode:=match Za6.body with
 | .seq _ (.seq _ (.seq (.seq _ (.block _ (.loop _ c))) _))=>c
 | _=>.skip
theorem zxy {v:GVal}(hl:v.l.length ≤ 1000)(hsl:∀ x ∈ v.l,x.l.length ≤ 1000)(hm:∀ x ∈ v.l,lcall E 276 [x.arg] []=some (zoh x)){Q:Ex→St→Prop}
  (hx:∀ tm,zba tm 1 = .ptr 0 0→zba tm 2 = .ptr 1 0→zba tm 3 = .arr 2 0 0 v.l.length→Q (.exit 0) ⟨tm,[zmd v,zyi,some (.arr 0 4 ((zab v.l).map ofDs)),none,none,none]⟩) :
  ∀ (m i:Nat),i + m=v.l.length →
   LX E z07 ⟨[1,2,3,9,10,11],[],[],[],[],true⟩ 6 ⟨[(1,.ptr 0 0),(2,.ptr 1 0),(3,.arr 2 0 0 v.l.length),(9,.arr 2 0 0 v.l.length),(10,.d (.i .i64 v.l.length)),(11,.d (.i .i64 i))],[zmd v,zyi,some (.arr 0 4 ((zab v.l).map ofDs)),none,none,none]⟩ Q:=by
 intro m
 induction m with
 | zero =>
  intro i hi
  have hn:¬ ((i:Int) < v.l.length):=by omega
  refine zan (zac ?_)
  refine zaa fun K hK=>?_
  simp only [evW,evX,evM,evN,hn,simprocAttr]
  refine hK _ _ ?_; clear hK K
  refine zac (zaf false rfl (fun h=>by cases h) (fun _=>zb9 ?_))
  exact hx _ rfl rfl rfl
 | succ m ih =>
  intro i hi
  have hy:(i:Int) < v.l.length:=by omega
  have la:i < v.l.length:=by omega
  have h0:(0:Int) ≤ i:=by omega
  have hr:∀ x:GVal,ofDs (GVal.row x)=[.d (.i .i64 x.kind),.d (.i .i64 x.i),.d (.s x.s),.d (.l 4 (zab x.l))]:=fun x=>by rw [zas]; rfl
  have ga:((zab v.l).map ofDs)[i]?=some [.d (.i .i64 v.l[i].kind),.d (.i .i64 v.l[i].i),.d (.s v.l[i].s),.d (.l 4 (zab v.l[i].l))]:=by rw [List.getElem?_map,zaw,Qd la,← hr]; rfl
  have hcall:=hm v.l[i] (List.getElem_mem la)
  have hsx:=hsl v.l[i] (List.getElem_mem la)
  have hset:((zab v.l).map ofDs).set i [.d (.i .i64 v.l[i].kind),.d (.i .i64 v.l[i].i),.d (.s v.l[i].s),.d (.l 4 (zab v.l[i].l))]=(zab v.l).map ofDs:=by
   apply List.ext_getElem?
   intro j
   rw [List.getElem?_set]
   split
   ·rename_i e; subst e; rw [ga,if_pos]; simpa [zad] using la
   ·rfl
  have w:IntKind.i64.wrap ((i:Int) + 1)=((i + 1:Nat):Int):=by rw [i64_in (by omega) (by omega)]; omega
  generalize v.l[i]=x at *
  refine zan (zac ?_)
  refine zaa fun K hK=>?_
  simp only [evW,evX,evM,evN,hy,simprocAttr]
  refine hK _ _ ?_; clear hK K
  refine zac (zaf true rfl (fun _=>zay ?_) (fun h=>by cases h))
  refine zac (za2 ?_)
  refine zac (zaa fun K hK=>?_)
  simp only [evW,evX,evM,evN,hy,h0,Qk,ga,simprocAttr]
  refine hK _ _ ?_; clear hK K
  have hst:∀ hp,stA 4 2 0 i 0 hp (some [.d (.i .i64 x.kind),.d (.i .i64 x.i),.d (.s x.s),.d (.l 4 (zab x.l))]) (some (.arr 0 4 ((zab v.l).map ofDs)))=some (hp.set 2 (some (.arr 0 4 ((zab v.l).map ofDs)))):=fun hp=>by
   simp [stA,ga,over,hset]
  have hsm:∀ a b c,zde 0 (.agg [.d a,.d b,.d c,.arr 0 0 0 x.l.length]) [some (.arr 0 4 ((zab x.l).map ofDs))]=some (.agg [.d a,.d b,.d c,.d (.l 4 (zab x.l))],[]):=fun a b c=>zhd a b c x.l (by omega)
  refine zaa fun K hK=>?_
  simp only [evW,evX,evM,evN,evC,far,hcall,zoh,hsm,hy,h0,Qk,hst,simprocAttr]
  refine hK _ _ ?_; clear hK K
  refine zaa fun K hK=>?_
  simp only [evW,evX,evM,evN,w,simprocAttr]
  refine hK _ _ ?_; clear hK K
  refine ⟨_, ?_,ih (i + 1) (by omega)⟩
  simp only [evH,evX,evN,zgl,zhe,simprocAttr]
theorem z5h (h276:E 276=some (.code Za6))(h146:E 146=some (.prim (zex 4 56))){v:GVal}(h:Small v):lcall E 276 [v.arg] []=some (zoh v):=by
 induction h with
 | mk hl hs ih =>
  rename_i v
  have hc:=zii h146 v.l hl
  refine zbc h276 ?_
  refine zac (zaa fun K hK=>?_)
  simp only [evW,evX,evM,evN,simprocAttr]
  refine hK _ _ ?_; clear hK K
  refine zac (zaa fun K hK=>?_)
  simp only [evW,evX,evM,evN,evC,far,hc,zct,zoj,simprocAttr]
  refine hK _ _ ?_; clear hK K
  refine zac (zac ?_)
  refine zaa fun K hK=>?_
  simp only [evW,evX,evM,evN,simprocAttr]
  refine hK _ _ ?_; clear hK K
  refine za2 (zcy ?_)
  simp only [evH,evX,evN,simprocAttr]
  refine zxy hl (fun x hx=>(hs x hx).len) ih (fun tm t1 t2 t3=>?_) v.l.length 0 (by omega)
  refine zac (zaa fun K hK=>?_)
  simp only [evW,evX,evM,evN,t1,t3,simprocAttr]
  refine hK _ _ ?_; clear hK K
  refine zac (zaa fun K hK=>?_)
  simp only [evW,evX,evM,evN,t1,t2,simprocAttr]
  refine hK _ _ ?_; clear hK K
  refine zap ⟨.inr rfl, ?_⟩
  simp only [evR,evX,evC,evN,far,Za6,t2,zoh,zct,zee,simprocAttr]
open Go
theorem Zaa (C:EvC E){vs:List (List GVal)}{ts:List (List UInt8)}(hr:GdR vs ts){e:Exp}(he:GdE e) :
  lcall E 269 [e.arg,.d (.l 1 (zbb vs)),.d (.l 1 (ts.map zc1))] []=some ((zb1 vs ts e).arg,[]):=by
 have A:=C.code
 have h1:=z5g C hr _ e (Nat.lt_succ_self _) he
 have gd:=zof hr he
 generalize zb1 vs ts e=v at *
 have hl:=zfq v
 have hz:=gd.size
 have h2:=z5h A.e276 A.e146 (zeh v (by omega))
 have st:=zhd (.i .i64 v.kind) (.i .i64 v.i) (.s v.s) v.l (by omega)
 have st2:=st
 rw [zk0] at st2
 simp only [zoh] at h2
 refine zat A.e269 ?_
 simp only [zae,c269,h1,h2,st,simprocAttr]
open Go
theorem z08 (A:XE E):∀ (a b:GVal),Small a→Small b→lcall E 114 [a.arg,b.arg] []=some (.d (.i .i64 (zda a b)),[]) :=
 Zbm A.e114 A.e126 A.e130 (Zbh A.e143 A.e127) (Zbi A.e144 A.e128) (zyl A.e145 A.e129)
theorem Zj4 (A:XE E):EvC E where
 code:=A
 cmp:=z08 A
 ins:=fun l v hl hs hv hch=>z1m A.e116 A.e133 A.e147 A.e134 (fun v hv=>Zag (v:=v) A.e132 A.e146 hv) (z08 A) hl hs hv hch
 find:=fun l k hl hch hne=>Zaf A.e119 A.e135 A.e150 (z5m A.e136 (fun v=>zwe A.e137 rfl v) (zyl A.e145 A.e129)) hl hch hne k
 size:=fun v h hz=>by have:=z0q A.e112 v h; rwa [zgu v (by omega)] at this
open Go
theorem Zho (n:Int):Gd (zok n):=⟨zrh n,by rw [zgt]; simp [zok,gF,szL]⟩
abbrev zfo (n:Int):V:=.agg [.d (.i .i64 0),.d (.i .i64 1),.d (.i .i64 n),.d (.s []),.d (.l 4 []),.d (.i .i64 0),.d (.i .i64 0),.d (.l 8 [])]
open Go
def mvV (v:GVal):Bool:=decide (zfy v ≤ 60) && zeq v
theorem Zhp {v:GVal}(h:Gd v):mvV v=true:=by
 unfold mvV
 have:=h.size
 rw [zgu v (by omega),h.may,Ql (by omega)]; rfl
structure MkE (d:Int)(e:Exp):Prop where
 gd:GdE e
 may:∀ D:Int,d ≤ D→zp7 mvV e D=true
 vals:AllV FitV e
theorem zu1 {op occ attr d:Int}{l:List Exp}(h0:op ≠ 0)(ht:zam op ≠ -2)(hn:zam op < 0 ∨ (l.length:Int)=zam op)(hl:l.length ≤ 4)
  (h1:0 ≤ occ) (h2:occ ≤ if op=1 then 5 else if op=2 then 5 else if op=3 then 5 else 0) (h3:0 ≤ attr) (h4:attr ≤ if op=1 then 7 else 0) (hd:1 ≤ d) (hx:∀ x ∈ l,MkE (d - 1) x):MkE d (.mk op zgj occ attr l):=by
 refine ⟨.mk (fun h=>absurd h h0) (fun x hx'=>(hx x hx').gd) (by omega),fun D hD=>?_,.mk (fun h=>absurd h h0) (fun x hx'=>(hx x hx').vals) (by show l.length ≤ 100000; omega)⟩
 have ha:zf8 mvV l (D - 1)=true:=by
  rw [← zik]
  simp only [Bool.not_eq_true',List.any_eq_false]
  intro x hx'
  rw [(hx x hx').may (D - 1) (by omega)]; simp
 have hf:ze2 mvV op zgj occ attr=true:=by
  unfold ze2
  rw [if_neg h0,show zhf zgj=true from rfl,Ql h1,Ql h2,Ql h3,Ql h4]; rfl
 rw [zjq]
 simp only [eF,ha,hf,Ql (show (1:Int) ≤ D by omega),decide_eq_false ht,Bool.not_false,Bool.true_and,Bool.and_true]
 rw [Ql (show (l.length:Int) ≤ 4 by omega),Bool.and_true]
 rcases hn with h | h
 ·rw [Ql h]; rfl
 ·rw [Ql h,Bool.or_true]
theorem Zhq {v:GVal}{d:Int}(h:Gd v)(hf:FitV v)(h7:v.kind ≠ 7)(hd:1 ≤ d):MkE d (.mk 0 v 0 0 []):=by
 refine ⟨gdE_con' h,fun D hD=>?_,.mk (fun _=>hf) (fun _ h=>by cases h) (by simp [Exp.args])⟩
 rw [zjq]
 simp only [eF,zf8,ze2,if_true,Zhp h,Ql h7,Ql (show (1:Int) ≤ D by omega)]
 decide
where gdE_con' {v:GVal} (h:Gd v):GdE (.mk 0 v 0 0 []):=.mk (fun _=>h) (fun _ h=>(by cases h)) (by simp)
theorem z6w {v:GVal}(h:GenOk (bnd 2) v):Gd v:=⟨h.may,by have:=h.size; have:bnd 2=55:=rfl; omega⟩
def Zhr (E:Nat→Option Fn)(l:List UInt8):Prop:=∀ (n:Nat),n ≤ l.length →
 ∃ (e:Exp) (n':Nat),lcall E 274 [.ptr 0 0] [zf7 l n]=some (e.arg,[zf7 l n'])∧n' ≤ l.length∧∀ d,1 ≤ d→MkE d e
def Zab (E:Nat→Option Fn)(l:List UInt8)(d:Nat):Prop:=∀ (n:Nat),n ≤ l.length →
 ∃ (e:Exp) (n':Nat),lcall E 267 [.ptr 0 0,.d (.i .i64 d)] [zf7 l n]=some (e.arg,[zf7 l n'])∧n' ≤ l.length∧MkE (if d ≤ 1 then 1 else d) e
theorem Zac (e274:E 274=some (.code z6c)){l:List UInt8}(hnum:zyh E l)(hval:zyg E l 2):Zhr E l:=by
 intro n hn
 obtain ⟨r,n1,c1,r0,r6,hn1⟩:=hnum n hn 6 (by omega)
 by_cases h0:r=0
 ·obtain ⟨o,n2,c2,o0,o4,hn2⟩:=hnum n1 hn1 4 (by omega)
  obtain ⟨a,n3,c3,a0,a3,hn3⟩:=hnum n2 hn2 3 (by omega)
  refine ⟨.mk 1 zgj o a [],n3,zat e274 ?_,hn3,fun d hd=>zu1 (by decide) (by decide) (.inr rfl) (by simp) o0 (by rw [if_pos rfl]; omega) a0 (by rw [if_pos rfl]; omega) hd (by simp)⟩
  simp only [zae,z6c,c1,eq_true h0,c2,c3,simprocAttr]
  rfl
 by_cases h1:r=1
 ·obtain ⟨o,n2,c2,o0,o4,hn2⟩:=hnum n1 hn1 2 (by omega)
  obtain ⟨a,n3,c3,a0,a3,hn3⟩:=hnum n2 hn2 3 (by omega)
  have w:IntKind.i64.wrap (2 + o)=2 + o:=i64_in (by omega) (by omega)
  have ho:2 + o=2 ∨ 2 + o=3:=by omega
  refine ⟨.mk (2 + o) zgj a 0 [],n3,zat e274 ?_,hn3,fun d hd=>?_⟩
  ·simp only [zae,z6c,c1,h0,eq_true h1,c2,c3,w,simprocAttr]
   rfl
  ·rcases ho with h | h <;> rw [h]
   ·exact zu1 (by decide) (by decide) (.inr rfl) (by simp) a0 (by rw [if_neg (by decide),if_pos rfl]; omega) (by decide) (by decide) hd (by simp)
   ·exact zu1 (by decide) (by decide) (.inr rfl) (by simp) a0 (by rw [if_neg (by decide),if_neg (by decide),if_pos rfl]; omega) (by decide) (by decide) hd (by simp)
 by_cases h2:r=2
 ·obtain ⟨o,n2,c2,o0,o4,hn2⟩:=hnum n1 hn1 2 (by omega)
  have w:IntKind.i64.wrap (21 + o)=21 + o:=i64_in (by omega) (by omega)
  have ho:21 + o=21 ∨ 21 + o=22:=by omega
  refine ⟨.mk (21 + o) zgj 0 0 [],n2,zat e274 ?_,hn2,fun d hd=>?_⟩
  ·simp only [zae,z6c,c1,h0,h1,eq_true h2,c2,w,simprocAttr]
   rfl
  ·rcases ho with h | h <;> rw [h]
   ·exact zu1 (by decide) (by decide) (.inr rfl) (by simp) (by decide) (by decide) (by decide) (by decide) hd (by simp)
   ·exact zu1 (by decide) (by decide) (.inr rfl) (by simp) (by decide) (by decide) (by decide) (by decide) hd (by simp)
 ·obtain ⟨v,n2,c2,hn2,gv⟩:=hval n1 hn1
  refine ⟨.mk 0 v 0 0 [],n2,zat e274 ?_,hn2,fun d hd=>Zhq (z6w gv) gv.fit gv.good hd⟩
  have c2':lcall E 109 [.ptr 0 0,.d (.i .i64 2)] [zf7 l n1]=some (v.arg,[zf7 l n2]):=c2
  simp only [zae,z6c,c1,h0,h1,h2,c2',simprocAttr]
  rfl
def ztn:CCode:=match zou.body with
 | .seq _ (.seq _ (.seq _ (.seq _ (.seq _ (.seq _ (.seq (.seq _ (.block _ (.loop _ c))) _))))))=>c
 | _=>.skip
abbrev bz8:Option Obj:=some (.box [.d (.i .i64 0),.d (.i .i64 0),.d (.i .i64 0),.d (.s []),.nil 4,.d (.i .i64 0),.d (.i .i64 0),.nil 8])
abbrev bxM (op:Int)(T:Nat)(xs:List Exp):Option Obj:=some (.box [.d (.i .i64 op),.d (.i .i64 0),.d (.i .i64 0),.d (.s []),.nil 4,.d (.i .i64 0),.d (.i .i64 0),.own T 0 8 (xs.map Exp.row)])
theorem z09 (xs:List Exp)(e:Exp):xs.map Exp.row++[[.i .i64 e.op,.i .i64 e.v.kind,.i .i64 e.v.i,.s e.v.s,.l 4 (zab e.v.l),.i .i64 e.occ,.i .i64 e.attr,.l 8 (e.args.map Exp.row)]]=(xs++[e]).map Exp.row:=by
 rw [List.map_append,List.map_singleton,zds]
def pad (t:Bool):List (Option Obj):=if t then [none,none,none,none] else []
set_option maxHeartbeats 4000000 in
theorem zh6 {l:List UInt8}{d:Nat}(hd:d + 1 ≤ 100)(hm:Zab E l d)(op:Int)(t:Bool)(N:Nat)(hN:N ≤ 10){Q:Ex→St→Prop}
  (hq:∀ tm n' xs,n' ≤ l.length→xs.length=N→(∀ x ∈ xs,MkE (if d ≤ 1 then 1 else d) x)→zba tm 4 = .ptr 1 0→zba tm 6 = .ptr 10 0→Q (.exit 2) ⟨tm,[zf7 l n',bz8,none,none,none,none,none,none,none,none,bxM op (if t then 15 else 11) xs]++pad t++[some (.tok 0 8)]⟩) :
  ∀ (m i n:Nat) (xs:List Exp),i + m=N→n ≤ l.length→xs.length=i→(∀ x ∈ xs,MkE (if d ≤ 1 then 1 else d) x) →
  LX E ztn ⟨[0,1,4,6,7,8],[],[(6,7)],[],[],true⟩ (if t then 16 else 12) ⟨[(0,.ptr 0 0),(1,.d (.i .i64 ((d + 1:Nat):Int))),(4,.ptr 1 0),(6,.ptr 10 0),(7,.d (.i .i64 N)),(8,.d (.i .i64 i))],
   [zf7 l n,bz8,none,none,none,none,none,none,none,none,bxM op (if t then 15 else 11) xs]++pad t++[some (.tok 0 8)]⟩ Q:=by
 intro m
 induction m with
 | zero =>
  intro i n xs hi hn hx hg
  have hnn:¬ ((i:Int) < (N:Int)):=by omega
  refine zan ?_
  cases t
  ·simp only [zae,zbo,ztn,zou,hnn,pad,simprocAttr]
   exact hq _ _ _ hn (by omega) hg rfl rfl
  ·simp only [zae,zbo,ztn,zou,hnn,pad,simprocAttr]
   exact hq _ _ _ hn (by omega) hg rfl rfl
 | succ m ih =>
  intro i n xs hi hn hx hg
  have hy:(i:Int) < (N:Int):=by omega
  have w:IntKind.i64.wrap ((i:Int) + 1)=((i + 1:Nat):Int):=by rw [i64_in (by omega) (by omega)]; omega
  have wd:IntKind.i64.wrap (((d + 1:Nat):Int) - 1)=(d:Int):=by rw [i64_in (by omega) (by omega)]; omega
  obtain ⟨e,n',c1,hn',ge⟩:=hm n hn
  have r2:zbi (xs.length + 1) 104=true:=by unfold zbi; exact Ql (by omega)
  have ih':=ih (i + 1) n' (xs++[e]) (by omega) hn' (by simp [hx]) (fun x h=>by
   rcases List.mem_append.1 h with h | h
   ·exact hg x h
   ·rw [List.mem_singleton.1 h]; exact ge)
  refine zan ?_
  cases t
  ·simp only [zae,zbo,ztn,zou,eq_true hy,w,wd,c1,r2,z09,pad,Qf,simprocAttr]
   exact ⟨by rfl,_,rfl,ih'⟩
  ·simp only [zae,zbo,ztn,zou,eq_true hy,w,wd,c1,r2,z09,pad,Qf,simprocAttr]
   exact ⟨by rfl,_,rfl,ih'⟩
def z6x (op:Int):Nat:=if op=21 ∨ op=22 then 0 else if op=11 ∨ op=15 then 1 else if op=12 ∨ op=16 then 3 else 2
theorem zxz {op:Int}(h1:7 ≤ op)(h2:op ≤ 22)(h14:op ≠ 14):zam op=(z6x op:Int):=by
 have:op=7 ∨ op=8 ∨ op=9 ∨ op=10 ∨ op=11 ∨ op=12 ∨ op=13 ∨ op=15 ∨ op=16 ∨ op=17 ∨ op=18 ∨ op=19 ∨ op=20 ∨ op=21 ∨ op=22:=by omega
 rcases this with h | h | h | h | h | h | h | h | h | h | h | h | h | h | h <;> subst h <;> rfl
theorem Zad (op:Int):((op=21 ∨ op=22)∧z6x op=0) ∨ ((op=11 ∨ op=15)∧z6x op=1) ∨ ((op=12 ∨ op=16)∧z6x op=3) ∨ ((op ≠ 21∧op ≠ 22∧op ≠ 11∧op ≠ 15∧op ≠ 12∧op ≠ 16)∧z6x op=2):=by
 unfold z6x
 by_cases h1:op=21 ∨ op=22
 ·exact .inl ⟨h1,if_pos h1⟩
 by_cases h2:op=11 ∨ op=15
 ·exact .inr (.inl ⟨h2,by rw [if_neg h1,if_pos h2]⟩)
 by_cases h3:op=12 ∨ op=16
 ·exact .inr (.inr (.inl ⟨h3,by rw [if_neg h1,if_neg h2,if_pos h3]⟩))
 ·exact .inr (.inr (.inr ⟨by omega,by rw [if_neg h1,if_neg h2,if_neg h3]⟩))
set_option maxHeartbeats 4000000 in
theorem z1a (e267:E 267=some (.code zou)){l:List UInt8}(hleaf:Zhr E l)(hnum:zyh E l):∀ (d:Nat),d ≤ 100→Zab E l d:=by
 intro d
 induction d with
 | zero =>
  intro _ n hn
  obtain ⟨r,n1,c1,r0,r30,hn1⟩:=hnum n hn 30 (by omega)
  obtain ⟨e,n2,c2,hn2,ge⟩:=hleaf n1 hn1
  have h:((0:Nat):Int) ≤ 1:=by omega
  refine ⟨e,n2,zat e267 ?_,hn2,ge _ (by simp)⟩
  simp only [zae,zou,c1,c2,simprocAttr]
 | succ d ih =>
  intro hd n hn
  obtain ⟨r,n1,c1,r0,r30,hn1⟩:=hnum n hn 30 (by omega)
  by_cases d0:d=0
  ·subst d0
   obtain ⟨e,n2,c2,hn2,ge⟩:=hleaf n1 hn1
   have h:((0 + 1:Nat):Int) ≤ 1:=by omega
   refine ⟨e,n2,zat e267 ?_,hn2,ge _ (by simp)⟩
   simp only [zae,zou,c1,c2,simprocAttr]
  have hd1:¬ ((d + 1:Nat):Int) ≤ 1:=by omega
  have ih:=ih (by omega)
  have hif:(if d + 1 ≤ 1 then (1:Int) else ((d + 1:Nat):Int))=((d + 1:Nat):Int):=if_neg (by omega)
  have hsub:∀ e,MkE (if d ≤ 1 then 1 else d) e→MkE (((d + 1:Nat):Int) - 1) e:=fun e h=>by
   have:(if d ≤ 1 then (1:Int) else d)=((d + 1:Nat):Int) - 1:=by split <;> omega
   rwa [this] at h
  by_cases h6:r < 6
  ·obtain ⟨e,n2,c2,hn2,ge⟩:=hleaf n1 hn1
   refine ⟨e,n2,zat e267 ?_,hn2,ge _ (by rw [hif]; omega)⟩
   simp only [zae,zou,c1,hd1,eq_true h6,c2,simprocAttr]
  have wd:IntKind.i64.wrap (((d + 1:Nat):Int) - 1)=(d:Int):=by rw [i64_in (by omega) (by omega)]; omega
  by_cases h12:r < 12
  ·obtain ⟨o,n2,c2,o0,o3,hn2⟩:=hnum n1 hn1 3 (by omega)
   obtain ⟨x,n3,c3,hn3,gx⟩:=ih n2 hn2
   obtain ⟨y,n4,c4,hn4,gy⟩:=ih n3 hn3
   have w:IntKind.i64.wrap (4 + o)=4 + o:=i64_in (by omega) (by omega)
   refine ⟨.mk (4 + o) zgj 0 0 [x,y],n4,zat e267 ?_,hn4, ?_⟩
   ·simp only [zae,zou,c1,hd1,h6,eq_true h12,c2,w,wd,c3,c4,simprocAttr]
    show some (V.agg [V.d (D.i IntKind.i64 (4 + o)),V.d (D.i IntKind.i64 0),V.d (D.i IntKind.i64 0),V.d (D.s []),V.d (D.l 4 []),V.d (D.i IntKind.i64 0),V.d (D.i IntKind.i64 0),V.d (D.l 8 _)],_)=some (V.agg [V.d (D.i IntKind.i64 (4 + o)),V.d (D.i IntKind.i64 0),V.d (D.i IntKind.i64 0),V.d (D.s []),V.d (D.l 4 []),V.d (D.i IntKind.i64 0),V.d (D.i IntKind.i64 0),V.d (D.l 8 [x.row,y.row])],_)
    rw [zds,zds]
   ·rw [hif]
    have ho:4 + o=4 ∨ 4 + o=5 ∨ 4 + o=6:=by omega
    have hx:∀ z ∈ [x,y],MkE (((d + 1:Nat):Int) - 1) z:=fun z hz=>by
     rcases List.mem_cons.1 hz with rfl | hz
     ·exact hsub _ gx
     ·rw [List.mem_singleton.1 hz]; exact hsub _ gy
    rcases ho with h | h | h <;> rw [h] <;> exact zu1 (by decide) (by decide) (.inr rfl) (by simp) (by decide) (by decide) (by decide) (by decide) (by omega) hx
  ·obtain ⟨o,n2,c2,o0,o16,hn2⟩:=hnum n1 hn1 16 (by omega)
   have w:IntKind.i64.wrap (7 + o)=7 + o:=i64_in (by omega) (by omega)
   obtain ⟨op,hop⟩:∃ op,op=7 + o:=⟨_,rfl⟩
   rw [← hop] at w
   have b1:7 ≤ op:=by omega
   have b2:op ≤ 22:=by omega
   have hmk:∀ xs:List Exp,(∀ x ∈ xs,MkE (if d ≤ 1 then 1 else d) x)→(op=14∧xs.length ≤ 3 ∨ op ≠ 14∧xs.length=z6x op)→MkE ((d + 1:Nat):Int) (.mk op zgj 0 0 xs):=fun xs hx hl=>by
    have hln:xs.length ≤ 4∧(zam op < 0 ∨ (xs.length:Int)=zam op)∧zam op ≠ -2:=by
     rcases hl with ⟨h,hl⟩ | ⟨h,hl⟩
     ·subst h; exact ⟨by omega,.inl (by decide),by decide⟩
     ·rw [zxz b1 b2 h,hl]
      refine ⟨?_,.inr rfl,by omega⟩
      unfold z6x; split <;> (try split) <;> (try split) <;> omega
    exact zu1 (by omega) hln.2.2 hln.2.1 hln.1 (by decide) (by rw [if_neg (by omega),if_neg (by omega),if_neg (by omega)]; decide) (by decide) (by rw [if_neg (by omega)]; decide) (by omega) (fun x h=>hsub x (hx x h))
   by_cases h14:op=14
   ·obtain ⟨k,n3,c3,k0,k4,hn3⟩:=hnum n2 hn2 4 (by omega)
    obtain ⟨N,rfl⟩:∃ N:Nat,k=N:=⟨k.toNat,by omega⟩
    suffices hh:∃ x,lcall E 267 [.ptr 0 0,.d (.i .i64 ((d + 1:Nat):Int))] [zf7 l n]=some x∧∃ (e:Exp) (n':Nat),x=(e.arg,[zf7 l n'])∧n' ≤ l.length∧MkE ((d + 1:Nat):Int) e by
     obtain ⟨x,h1,e,n',rfl,h2,h3⟩:=hh
     exact ⟨e,n',h1,h2,by rw [hif]; exact h3⟩
    refine zt2 e267 ?_
    have n21:¬ op=21:=by omega
    have n22:¬ op=22:=by omega
    have n11:¬ op=11:=by omega
    have n15:¬ op=15:=by omega
    have n12:¬ op=12:=by omega
    have n16:¬ op=16:=by omega
    simp only [zae,zou,c1,hd1,h6,h12,c2,← hop,w,eq_true h14,n21,n22,n11,n15,n12,n16,c3,simprocAttr]
    refine zh6 hd ih op true N (by omega) (fun tm n' xs h1 h2 h3 h4 h6=>?_) N 0 n3 [] (by omega) hn3 rfl (by simp)
    simp only [zae,h4,h6,simprocAttr]
    exact ⟨.mk op zgj 0 0 xs,n',rfl,h1,hmk xs h3 (.inl ⟨h14,by omega⟩)⟩
   ·suffices hh:∃ x,lcall E 267 [.ptr 0 0,.d (.i .i64 ((d + 1:Nat):Int))] [zf7 l n]=some x∧∃ (e:Exp) (n':Nat),x=(e.arg,[zf7 l n'])∧n' ≤ l.length∧MkE ((d + 1:Nat):Int) e by
     obtain ⟨x,h1,e,n',rfl,h2,h3⟩:=hh
     exact ⟨e,n',h1,h2,by rw [hif]; exact h3⟩
    refine zt2 e267 ?_
    rcases Zad op with ⟨h,hN⟩ | ⟨h,hN⟩ | ⟨h,hN⟩ | ⟨h,hN⟩
    ·have o1:(decide (op=21) || decide (op=22))=true:=by simpa using h
     rcases h with h | h
     ·simp only [zae,zou,c1,hd1,h6,h12,c2,← hop,w,eq_true h,simprocAttr]
      refine zh6 hd ih op false 0 (by omega) (fun tm n' xs h1 h2 h3 h4 h6=>?_) 0 0 n2 [] (by omega) hn2 rfl (by simp)
      simp only [zae,h4,h6,simprocAttr]
      exact ⟨.mk op zgj 0 0 xs,n',rfl,h1,hmk xs h3 (.inr ⟨h14,by omega⟩)⟩
     ·have n21:¬ op=21:=by omega
      simp only [zae,zou,c1,hd1,h6,h12,c2,← hop,w,n21,eq_true h,simprocAttr]
      refine zh6 hd ih op false 0 (by omega) (fun tm n' xs h1 h2 h3 h4 h6=>?_) 0 0 n2 [] (by omega) hn2 rfl (by simp)
      simp only [zae,h4,h6,simprocAttr]
      exact ⟨.mk op zgj 0 0 xs,n',rfl,h1,hmk xs h3 (.inr ⟨h14,by omega⟩)⟩
    ·have n21:¬ op=21:=by omega
     have n22:¬ op=22:=by omega
     rcases h with h | h
     ·simp only [zae,zou,c1,hd1,h6,h12,c2,← hop,w,n21,n22,eq_true h,simprocAttr]
      refine zh6 hd ih op false 1 (by omega) (fun tm n' xs h1 h2 h3 h4 h6=>?_) 1 0 n2 [] (by omega) hn2 rfl (by simp)
      simp only [zae,h4,h6,simprocAttr]
      exact ⟨.mk op zgj 0 0 xs,n',rfl,h1,hmk xs h3 (.inr ⟨h14,by omega⟩)⟩
     ·have n11:¬ op=11:=by omega
      simp only [zae,zou,c1,hd1,h6,h12,c2,← hop,w,n21,n22,n11,eq_true h,simprocAttr]
      refine zh6 hd ih op false 1 (by omega) (fun tm n' xs h1 h2 h3 h4 h6=>?_) 1 0 n2 [] (by omega) hn2 rfl (by simp)
      simp only [zae,h4,h6,simprocAttr]
      exact ⟨.mk op zgj 0 0 xs,n',rfl,h1,hmk xs h3 (.inr ⟨h14,by omega⟩)⟩
    ·have n21:¬ op=21:=by omega
     have n22:¬ op=22:=by omega
     have n11:¬ op=11:=by omega
     have n15:¬ op=15:=by omega
     rcases h with h | h
     ·simp only [zae,zou,c1,hd1,h6,h12,c2,← hop,w,n21,n22,n11,n15,eq_true h,simprocAttr]
      refine zh6 hd ih op false 3 (by omega) (fun tm n' xs h1 h2 h3 h4 h6=>?_) 3 0 n2 [] (by omega) hn2 rfl (by simp)
      simp only [zae,h4,h6,simprocAttr]
      exact ⟨.mk op zgj 0 0 xs,n',rfl,h1,hmk xs h3 (.inr ⟨h14,by omega⟩)⟩
     ·have n12:¬ op=12:=by omega
      simp only [zae,zou,c1,hd1,h6,h12,c2,← hop,w,n21,n22,n11,n15,n12,eq_true h,simprocAttr]
      refine zh6 hd ih op false 3 (by omega) (fun tm n' xs h1 h2 h3 h4 h6=>?_) 3 0 n2 [] (by omega) hn2 rfl (by simp)
      simp only [zae,h4,h6,simprocAttr]
      exact ⟨.mk op zgj 0 0 xs,n',rfl,h1,hmk xs h3 (.inr ⟨h14,by omega⟩)⟩
    ·have n21:¬ op=21:=by omega
     have n22:¬ op=22:=by omega
     have n11:¬ op=11:=by omega
     have n15:¬ op=15:=by omega
     have n12:¬ op=12:=by omega
     have n16:¬ op=16:=by omega
     simp only [zae,zou,c1,hd1,h6,h12,c2,← hop,w,n21,n22,n11,n15,n12,n16,h14,simprocAttr]
     refine zh6 hd ih op false 2 (by omega) (fun tm n' xs h1 h2 h3 h4 h6=>?_) 2 0 n2 [] (by omega) hn2 rfl (by simp)
     simp only [zae,h4,h6,simprocAttr]
     exact ⟨.mk op zgj 0 0 xs,n',rfl,h1,hmk xs h3 (.inr ⟨h14,by omega⟩)⟩
open Go
def zhb:CCode:=match zyd.body with
 | .seq _ (.seq _ (.seq _ (.seq (.seq _ (.block _ (.loop _ c))) _)))=>c
 | _=>.skip
def zrm:CCode:=match zhb with
 | .seq _ (.seq (.block _ (.seq _ (.seq (.seq _ (.block _ (.loop _ c))) _))) _)=>c
 | _=>.skip
theorem z1b (xs:List GVal)(v:GVal):zab xs++[[.i .i64 v.kind,.i .i64 v.i,.s v.s,.l 4 (zab v.l)]]=zab (xs++[v]):=by simp [zbz,zas]
structure GF (v:GVal):Prop where
 gd:Gd v
 fit:FitV v
theorem z5i {l:List UInt8}(hnum:zyh E l)(hval:zyg E l 2)(i:Int)(out:List (List D)){Q:Ex→St→Prop}
  (hx:∀ tm n' vs,n' ≤ l.length→vs.length=3→(∀ v ∈ vs,GF v)→zba tm 4 = .ptr 0 0→zba tm 5 = .own 4 0 1 out→zba tm 6 = .d (.i .i64 i)→zba tm 7 = .own 5 0 4 (zab vs)→Q (.exit 2) ⟨tm,[zf7 l n',none,none,none,some (.tok 0 1),some (.tok 0 4)]⟩) :
  ∀ (m k n:Nat) (vs:List GVal),k + m=3→n ≤ l.length→vs.length=k→(∀ v ∈ vs,GF v) →
  LX E zrm ⟨[4,5,6,7,8],[7],[],[],[],true⟩ 6 ⟨[(4,.ptr 0 0),(5,.own 4 0 1 out),(6,.d (.i .i64 i)),(7,.own 5 0 4 (zab vs)),(8,.d (.i .i64 k))],[zf7 l n,none,none,none,some (.tok 0 1),some (.tok 0 4)]⟩ Q:=by
 intro m
 induction m with
 | zero =>
  intro k n vs hk hn hv hg
  have hnn:¬ ((k:Int) < 3):=by omega
  refine zan ?_
  simp only [zae,zbo,zrm,zhb,zyd,hnn,simprocAttr]
  exact hx _ _ _ hn (by omega) hg rfl rfl rfl rfl
 | succ m ih =>
  intro k n vs hk hn hv hg
  have hy:(k:Int) < 3:=by omega
  have w:IntKind.i64.wrap ((k:Int) + 1)=((k + 1:Nat):Int):=by rw [i64_in (by omega) (by omega)]; omega
  obtain ⟨v,n1,c1,hn1,gv⟩:=hval n hn
  have c1':lcall E 109 [.ptr 0 0,.d (.i .i64 2)] [zf7 l n]=some (v.arg,[zf7 l n1]):=c1
  obtain ⟨r,n2,c2,r0,r9,hn2⟩:=hnum n1 hn1 9 (by omega)
  have r2:zbi (vs.length + 1) 56=true:=zb3 (by omega)
  by_cases h1:r=1
  ·obtain ⟨j,n3,c3,j0,j13,hn3⟩:=hnum n2 hn2 13 (by omega)
   have wj:IntKind.i64.wrap (1 + j)=1 + j:=i64_in (by omega) (by omega)
   have ih':=ih (k + 1) n3 (vs++[zef (1 + j)]) (by omega) hn3 (by simp [hv]) (fun x h=>by
    rcases List.mem_append.1 h with h | h
    ·exact hg x h
    ·rw [List.mem_singleton.1 h]; exact ⟨zkr (by omega),⟨by show z42 (1 + j); unfold z42; omega,by simp [zef,gF]⟩⟩)
   have hrow:zab vs++[[.i .i64 7,.i .i64 (1 + j),.s [],.l 4 []]]=zab (vs++[zef (1 + j)]):=z1b vs (zef (1 + j))
   refine zan ?_
   simp only [zae,zbo,zrm,zhb,zyd,eq_true hy,w,c1',c2,eq_true h1,c3,wj,zad,r2,hrow,simprocAttr]
   exact ⟨_,rfl,ih'⟩
  ·have ih':=ih (k + 1) n2 (vs++[v]) (by omega) hn2 (by simp [hv]) (fun x h=>by
    rcases List.mem_append.1 h with h | h
    ·exact hg x h
    ·rw [List.mem_singleton.1 h]; exact ⟨z6w gv,gv.fit⟩)
   refine zan ?_
   simp only [zae,zbo,zrm,zhb,zyd,eq_true hy,w,c1',c2,h1,zad,r2,z1b,simprocAttr]
   exact ⟨_,rfl,ih'⟩
def Zhs (vs:List GVal):Prop:=vs.length=3∧∀ v ∈ vs,GF v
theorem zrn (xs:List (List GVal))(r:List GVal):zbb xs++[[.l 4 (zab r)]]=zbb (xs++[r]):=by simp [zbb]
theorem z1c {l:List UInt8}(hnum:zyh E l)(hval:zyg E l 2){Q:Ex→St→Prop}
  (hx:∀ tm n' vs,n' ≤ l.length→vs.length=3→(∀ v ∈ vs,Zhs v)→zba tm 4 = .ptr 0 0→zba tm 5 = .own 4 0 1 (zbb vs)→Q (.exit 0) ⟨tm,[zf7 l n',none,none,none,some (.tok 0 1)]⟩) :
  ∀ (m k n:Nat) (vs:List (List GVal)),k + m=3→n ≤ l.length→vs.length=k→(∀ v ∈ vs,Zhs v) →
  LX E zhb ⟨[4,5,6],[5],[],[],[],true⟩ 5 ⟨[(4,.ptr 0 0),(5,.own 4 0 1 (zbb vs)),(6,.d (.i .i64 k))],[zf7 l n,none,none,none,some (.tok 0 1)]⟩ Q:=by
 intro m
 induction m with
 | zero =>
  intro k n vs hk hn hv hg
  have hnn:¬ ((k:Int) < 3):=by omega
  refine zan ?_
  simp only [zae,zbo,zhb,zyd,hnn,simprocAttr]
  exact hx _ _ _ hn (by omega) hg rfl rfl
 | succ m ih =>
  intro k n vs hk hn hv hg
  have hy:(k:Int) < 3:=by omega
  have w:IntKind.i64.wrap ((k:Int) + 1)=((k + 1:Nat):Int):=by rw [i64_in (by omega) (by omega)]; omega
  have r2:zbi (vs.length + 1) 24=true:=by unfold zbi; exact Ql (by omega)
  have lv:(zbb vs).length=vs.length:=by simp [zbb]
  refine zan ?_
  simp only [zae,zbo,zhb,zyd,eq_true hy,simprocAttr]
  refine z5i hnum hval k (zbb vs) (fun tm n1 rs h1 h2 h3 h4 h5 h6 h7=>?_) 3 0 n [] rfl hn rfl (by simp)
  simp only [zae,zbo,h4,h5,h6,h7,lv,r2,w,zrn,simprocAttr]
  exact ⟨_,rfl,ih (k + 1) n1 (vs++[rs]) (by omega) h1 (by simp [hv]) (fun x h=>by
    rcases List.mem_append.1 h with h | h
    ·exact hg x h
    ·rw [List.mem_singleton.1 h]; exact ⟨h2,h3⟩)⟩
theorem Zae (e266:E 266=some (.code zyd))(e108:E 108=some (.code Zaw)){l:List UInt8}(hnum:zyh E l)(hval:zyg E l 2) :
  ∃ (vs:List (List GVal)) (ts:List (List UInt8)),lcall E 266 [.d (.l 1 (zca l))] []=some (.tup [.d (.l 1 (zbb vs)),.d (.l 1 (ts.map zc1))],[])∧vs.length=3∧(∀ v ∈ vs,Zhs v)∧∀ s ∈ ts,s.length ≤ 1000000:=by
 suffices hh:∃ x,lcall E 266 [.d (.l 1 (zca l))] []=some x∧∃ (vs:List (List GVal)) (ts:List (List UInt8)),x=(.tup [.d (.l 1 (zbb vs)),.d (.l 1 (ts.map zc1))],[])∧vs.length=3∧(∀ v ∈ vs,Zhs v)∧∀ s ∈ ts,s.length ≤ 1000000 by
  obtain ⟨x,h1,vs,ts,rfl,h2⟩:=hh
  exact ⟨vs,ts,h1,h2⟩
 refine zt2 e266 ?_
 simp only [zae,List.range'_one,zyd,zyk e108 l,simprocAttr]
 refine z1c hnum hval (fun tm n1 vs h1 h2 h3 h4 h5=>?_) 3 0 0 [] rfl (by omega) rfl (by simp)
 obtain ⟨r,n2,c2,r0,r4,hn2⟩:=hnum n1 h1 4 (by omega)
 have hr:r=0 ∨ r=1 ∨ r=2 ∨ r=3:=by omega
 rcases hr with h | h | h | h <;> subst h
 ·simp only [zae,h4,h5,c2,simprocAttr]
  exact ⟨by rfl,vs,[[49,50],[120],[]],rfl,h2,h3,by decide⟩
 ·simp only [zae,h4,h5,c2,simprocAttr]
  exact ⟨by rfl,vs,[[49,50],[120],[57,57,57,57,57,57,57,57,57,57,57,57,57,57,57,57,57,57]],rfl,h2,h3,by decide⟩
 ·simp only [zae,h4,h5,c2,simprocAttr]
  exact ⟨by rfl,vs,[[49,50],[120],[49,50,51,52,53,54,55,56,57,48,49,50,51,52,53,54,55,56,57]],rfl,h2,h3,by decide⟩
 ·simp only [zae,h4,h5,c2,simprocAttr]
  exact ⟨by rfl,vs,[[49,50],[120],[48,48,55]],rfl,h2,h3,by decide⟩
open Go
structure RE (E:Nat→Option Fn):Prop where
 e108:E 108=some (.code Zaw)
 e109:E 109=some (.code zvl)
 e115:E 115=some (.code zvm)
 e117:E 117=some (.code z1y)
 e120:E 120=some (.code z3b)
 e121:E 121=some (.code c121)
 e123:E 123=some (.code Za0)
 e124:E 124=some (.code z8a)
 e131:E 131=some (.code z3e)
 e138:E 138=some (.code Zij)
 e267:E 267=some (.code zou)
 e274:E 274=some (.code z6c)
theorem Zip (R:RE E){l:List UInt8}(hl:l.length ≤ 100):zyh E l:=fun n hn m hm=>Zg8 R.e123 l n (by omega) hn m hm
theorem Zkp (R:RE E):∀ (a b:GVal),Small a→Small b→lcall E 115 [a.arg,b.arg] []=some (.d (.i .i64 (zda a b)),[]):=zn9 R.e115 R.e131
theorem Zkq (R:RE E){l:List UInt8}(hl:l.length ≤ 100)(d:Nat)(hd:d ≤ 100):zyg E l d :=
 z6v R.e109 R.e124 (fun ws v h1 h2 h3=>ztf R.e117 (fun x hx=>Zkp R x v (h2 x hx) h3) h1) (fun ws k h=>zpz R.e120 (fun v=>zwe R.e138 rfl v) h k) (Zip R hl) d hd
theorem Zj5 (R:RE E){l:List UInt8}(hl:l.length ≤ 100)(d:Nat)(hd:d ≤ 100):Zab E l d :=
 z1a R.e267 (Zac R.e274 (Zip R hl) (Zkq R hl 2 (by omega))) (Zip R hl) d hd
theorem gsm {v:GVal}(h:Gd v):Small v:=zeh v (by have:=h.size; omega)
theorem Zj6 (R:RE E)(a b:GVal)(ha:Gd a)(hb:Gd b):lcall E 121 [a.arg,b.arg] []=some (.d (.b (decide (zda a b=0))),[]) :=
 z0n R.e121 (Zkp R) a b (gsm ha) (gsm hb)
theorem z1d (v:GVal):zda v v=0:=by
 refine ztg (P:=fun v=>zda v v=0) (fun v ih=>?_) v
 have hl:zfs v.l v.l=0:=by
  generalize v.l=l at ih
  induction l with
  | nil=>simp [zfs]
  | cons x l ihl =>
   have hx:=ih x (List.mem_cons_self ..)
   have:=ihl (fun y hy=>ih y (List.mem_cons_of_mem _ hy))
   simp [zfs,hx,this]
 rw [zgi]; simp [hl]
theorem Zj7 (R:RE E)(a:GVal)(ha:Gd a):lcall E 121 [a.arg,a.arg] []=some (.d (.b true),[]):=by
 rw [Zj6 R a a ha ha,z1d]; rfl
theorem Zj8 (R:RE E)(e266:E 266=some (.code zyd)){l:List UInt8}(hl:l.length ≤ 100):∃ (vs:List (List GVal)) (ts:List (List UInt8)),lcall E 266 [.d (.l 1 (zca l))] []=some (.tup [.d (.l 1 (zbb vs)),.d (.l 1 (ts.map zc1))],[])∧vs.length=3∧(∀ v ∈ vs,Zhs v)∧∀ s ∈ ts,s.length ≤ 1000000:=Zae e266 R.e108 (Zip R hl) (Zkq R hl 2 (by omega))
open Go
theorem zdb (e279:E 279=some (.code zw6))(n:Int):lcall E 279 [.d (.i .i64 n)] []=some ((zef n).arg,[]):=by
 refine zat e279 ?_
 simp only [zae,zw6,simprocAttr]
 rfl
theorem zfp (e288:E 288=some (.code z8f))(b:Bool):lcall E 288 [.d (.b b)] []=some ((zjr b).arg,[]):=by
 refine zat e288 ?_
 cases b
 ·simp only [zae,z8f,simprocAttr]
  rfl
 ·simp only [zae,z8f,simprocAttr]
  rfl
theorem z1e (e280:E 280=some (.code Za7))(e279:E 279=some (.code zw6))(e113:E 113=some (.code z58)){v:GVal}(hS:Small v)(hs:szN v ≤ 1000000):lcall E 280 [v.arg] []=some ((zuw v).arg,[]):=by
 have c1:=zpy e113 v hS
 rw [zgu v (by omega)] at c1
 have b6:=zdb e279 6
 refine zat e280 ?_
 unfold zuw
 by_cases h:60 < szN v
 ·have h':(60:Int) < (szN v:Int):=by omega
  rw [if_pos h]
  simp only [zae,Za7,c1,eq_true h',b6,simprocAttr]
 ·have h':¬ (60:Int) < (szN v:Int):=by omega
  rw [if_neg h]
  simp only [zae,Za7,c1,h',simprocAttr]
def zmt:CCode:=match z3j.body with
 | .seq _ (.seq (.seq _ (.block _ (.loop _ c))) _)=>c
 | _=>.skip
def z6y (k:Int)(l:List GVal):Bool:=l.all fun v=>decide (v.kind=k)
theorem z1f (e289:E 289=some (.code z3j)){l:List GVal}(hl:l.length ≤ 1000)(k:Int):lcall E 289 [.d (.l 4 (zab l)),.d (.i .i64 k)] []=some (.d (.b (z6y k l)),[]):=by
 refine zat e289 ?_
 simp only [zae,z3j,simprocAttr]
 suffices hh:∀ (m i:Nat),i + m=l.length→(l.take i).all (fun v=>decide (v.kind=k))=true→LX E zmt ⟨[0,1,5],[],[],[],[],true⟩ 0 ⟨[(0,.d (.l 4 (zab l))),(1,.d (.i .i64 k)),(5,.d (.i .i64 i))],[]⟩
  (ziy 0 (z8w E (sq [oo 4 (.mv (.k (.d (.b true))))] .ret) (fin 0 [.slot 4] (.d (.b (z6y k l)),[])))) from hh l.length 0 (by omega) rfl
 intro m
 induction m with
 | zero =>
  intro i hi ha
  have hnn:¬ ((i:Int) < (l.length:Int)):=by omega
  have hall:z6y k l=true:=by unfold z6y; rw [← ha,List.take_of_length_le (by omega)]
  refine zan ?_
  simp only [zae,zbo,zmt,z3j,zad,hnn,hall,simprocAttr]
 | succ m ih =>
  intro i hi ha
  have hy:(i:Int) < (l.length:Int):=by omega
  have hil:i < l.length:=by omega
  have h0:(0:Int) ≤ (i:Int):=by omega
  have w:IntKind.i64.wrap ((i:Int) + 1)=((i + 1:Nat):Int):=by rw [i64_in (by omega) (by omega)]; omega
  have ga:(zab l)[i]?=some (GVal.row l[i]):=by rw [zaw,Qd hil]; rfl
  rw [zas] at ga
  by_cases hk:l[i].kind=k
  ·have ih':=ih (i + 1) (by omega) (by rw [List.take_succ_eq_append_getElem hil,List.all_append,ha]; simp [hk])
   refine zan ?_
   simp only [zae,zbo,zmt,z3j,zad,eq_true hy,eq_true h0,ga,w,hk,simprocAttr]
   exact ⟨_,rfl,ih'⟩
  ·have hall:z6y k l=false:=by
    unfold z6y
    rw [List.all_eq_false]
    exact ⟨l[i],List.getElem_mem hil,by simpa using hk⟩
   refine zan ?_
   simp only [zae,zbo,zmt,z3j,zad,eq_true hy,eq_true h0,ga,hk,hall,simprocAttr]
theorem zwo (e278:E 278=some (.code zov)){op:Int}(h:zam op ≠ -2):lcall E 278 [.d (.i .i64 op)] []=some (.tup [.d (.i .i64 (zam op)),.d (.b true)],[]):=by
 refine zat e278 ?_
 by_cases h0:op=0
 ·subst h0; simp only [zae,zov,zam,simprocAttr]
 by_cases h1:op=1
 ·subst h1; simp only [zae,zov,zam,simprocAttr]
 by_cases h2:op=2
 ·subst h2; simp only [zae,zov,zam,simprocAttr]
 by_cases h3:op=3
 ·subst h3; simp only [zae,zov,zam,simprocAttr]
 by_cases h21:op=21
 ·subst h21; simp only [zae,zov,zam,simprocAttr]
 by_cases h22:op=22
 ·subst h22; simp only [zae,zov,zam,simprocAttr]
 by_cases h11:op=11
 ·subst h11; simp only [zae,zov,zam,simprocAttr]
 by_cases h15:op=15
 ·subst h15; simp only [zae,zov,zam,simprocAttr]
 by_cases h12:op=12
 ·subst h12; simp only [zae,zov,zam,simprocAttr]
 by_cases h16:op=16
 ·subst h16; simp only [zae,zov,zam,simprocAttr]
 by_cases h14:op=14
 ·subst h14; simp only [zae,zov,zam,simprocAttr]
 have h5:op > 3∧op < 21:=by
  apply Classical.byContradiction
  intro hn
  apply h
  unfold zam
  simp only [h0,h1,h2,h3,h21,h22,h11,h15,h12,h16,h14,if_false,if_neg hn]
 have k1:(0:Int) < op:=by omega
 have k2:op ≤ 22:=by omega
 have ht:zam op=2:=by
  unfold zam
  simp only [h0,h1,h2,h3,h21,h22,h11,h15,h12,h16,h14,if_false,if_pos h5]
 rw [ht]
 simp only [zae,zov,h0,h1,h2,h3,h21,h22,h11,h15,h12,h16,h14,eq_true k1,eq_true k2,simprocAttr]
theorem z1g (e278:E 278=some (.code zov)){op:Int}(h:zam op = -2):∃ n:Int,lcall E 278 [.d (.i .i64 op)] []=some (.tup [.d (.i .i64 n),.d (.b false)],[]):=by
 have nn:∀ k:Int,zam k ≠ -2→op ≠ k:=fun k hk e=>hk (e ▸ h)
 have h0:=nn 0 (by decide)
 have h1:=nn 1 (by decide)
 have h2:=nn 2 (by decide)
 have h3:=nn 3 (by decide)
 have h21:=nn 21 (by decide)
 have h22:=nn 22 (by decide)
 have h11:=nn 11 (by decide)
 have h15:=nn 15 (by decide)
 have h12:=nn 12 (by decide)
 have h16:=nn 16 (by decide)
 have h14:=nn 14 (by decide)
 have h5:¬ (op > 3∧op < 21):=fun hp=>by
  unfold zam at h
  simp only [h0,h1,h2,h3,h21,h22,h11,h15,h12,h16,h14,if_false,if_pos hp] at h
  omega
 refine ⟨2,zat e278 ?_⟩
 by_cases k1:(0:Int) < op
 ·have k2:¬ op ≤ 22:=by omega
  simp only [zae,zov,h0,h1,h2,h3,h21,h22,h11,h15,h12,h16,h14,eq_true k1,k2,simprocAttr]
 ·simp only [zae,zov,h0,h1,h2,h3,h21,h22,h11,h15,h12,h16,h14,k1,simprocAttr]
open Go
theorem zx0 (e290:E 290=some (.code zml))(e279:E 279=some (.code zw6)){a b:Int}(ha:zcv a)(hb:zcv b):lcall E 290 [.d (.i .i64 4),.d (.i .i64 a),.d (.i .i64 b)] []=some ((zoo (a + b)).arg,[]):=by
 have b5:=zdb e279 5
 have ha':=ha
 have hb':=hb
 unfold zcv at ha' hb'
 simp only [zi0,zol] at ha' hb'
 refine zat e290 ?_
 by_cases p:(0:Int) < b
 ·have w1:IntKind.i64.wrap (9223372036854775807 - b)=9223372036854775807 - b:=i64_in (by omega) (by omega)
  by_cases q:(9223372036854775807 - b) < a
  ·have hn:¬ zcv (a + b):=by unfold zcv; simp only [zi0,zol]; omega
   rw [show zoo (a + b)=zef 5 from if_neg hn]
   simp only [zae,zml,eq_true p,w1,eq_true q,b5,simprocAttr]
  ·have hf:zcv (a + b):=by unfold zcv; simp only [zi0,zol]; omega
   rw [show zoo (a + b)=zok (a + b) from if_pos hf]
   have wf:=zcs hf
   have p2:¬ b < 0:=by omega
   simp only [zae,zml,eq_true p,w1,q,p2,wf,simprocAttr]
   rfl
 ·by_cases p2:b < 0
  ·have w1:IntKind.i64.wrap (-9223372036854775808 - b) = -9223372036854775808 - b:=i64_in (by omega) (by omega)
   by_cases q:a < -9223372036854775808 - b
   ·have hn:¬ zcv (a + b):=by unfold zcv; simp only [zi0,zol]; omega
    rw [show zoo (a + b)=zef 5 from if_neg hn]
    simp only [zae,zml,p,eq_true p2,w1,eq_true q,b5,simprocAttr]
   ·have hf:zcv (a + b):=by unfold zcv; simp only [zi0,zol]; omega
    rw [show zoo (a + b)=zok (a + b) from if_pos hf]
    have wf:=zcs hf
    simp only [zae,zml,p,eq_true p2,w1,q,wf,simprocAttr]
    rfl
  ·have hf:zcv (a + b):=by unfold zcv; simp only [zi0,zol]; omega
   rw [show zoo (a + b)=zok (a + b) from if_pos hf]
   have wf:=zcs hf
   simp only [zae,zml,p,p2,wf,simprocAttr]
   rfl
theorem zx1 (e290:E 290=some (.code zml))(e279:E 279=some (.code zw6)){a b:Int}(ha:zcv a)(hb:zcv b):lcall E 290 [.d (.i .i64 5),.d (.i .i64 a),.d (.i .i64 b)] []=some ((zoo (a - b)).arg,[]):=by
 have b5:=zdb e279 5
 have ha':=ha
 have hb':=hb
 unfold zcv at ha' hb'
 simp only [zi0,zol] at ha' hb'
 refine zat e290 ?_
 by_cases p:b < 0
 ·have w1:IntKind.i64.wrap (9223372036854775807 + b)=9223372036854775807 + b:=i64_in (by omega) (by omega)
  by_cases q:(9223372036854775807 + b) < a
  ·have hn:¬ zcv (a - b):=by unfold zcv; simp only [zi0,zol]; omega
   rw [show zoo (a - b)=zef 5 from if_neg hn]
   simp only [zae,zml,eq_true p,w1,eq_true q,b5,simprocAttr]
  ·have hf:zcv (a - b):=by unfold zcv; simp only [zi0,zol]; omega
   rw [show zoo (a - b)=zok (a - b) from if_pos hf]
   have wf:=zcs hf
   have p2:¬ 0 < b:=by omega
   simp only [zae,zml,eq_true p,w1,q,p2,wf,simprocAttr]
   rfl
 ·by_cases p2:0 < b
  ·have w1:IntKind.i64.wrap (-9223372036854775808 + b) = -9223372036854775808 + b:=i64_in (by omega) (by omega)
   by_cases q:a < -9223372036854775808 + b
   ·have hn:¬ zcv (a - b):=by unfold zcv; simp only [zi0,zol]; omega
    rw [show zoo (a - b)=zef 5 from if_neg hn]
    simp only [zae,zml,p,eq_true p2,w1,eq_true q,b5,simprocAttr]
   ·have hf:zcv (a - b):=by unfold zcv; simp only [zi0,zol]; omega
    rw [show zoo (a - b)=zok (a - b) from if_pos hf]
    have wf:=zcs hf
    simp only [zae,zml,p,eq_true p2,w1,q,wf,simprocAttr]
    rfl
  ·have hf:zcv (a - b):=by unfold zcv; simp only [zi0,zol]; omega
   rw [show zoo (a - b)=zok (a - b) from if_pos hf]
   have wf:=zcs hf
   simp only [zae,zml,p,p2,wf,simprocAttr]
   rfl
theorem zx2 (e290:E 290=some (.code zml))(e279:E 279=some (.code zw6)){a b:Int}(ha:zcv a)(hb:zcv b):lcall E 290 [.d (.i .i64 6),.d (.i .i64 a),.d (.i .i64 b)] []=some ((zoo (a * b)).arg,[]):=by
 have b5:=zdb e279 5
 refine zat e290 ?_
 by_cases h0:a=0
 ·have hf:zcv (a * b):=by rw [h0,Int.zero_mul]; decide
  rw [show zoo (a * b)=zok (a * b) from if_pos hf]
  have wf:=zcs hf
  simp only [zae,zml,eq_true h0,wf,simprocAttr]
  rfl
 have hm:=zwu ha hb h0
 by_cases hf:zcv (a * b)
 ·rw [Ql hf] at hm
  simp only [Bool.not_true,Bool.or_eq_false_iff,Bool.not_eq_false',Qh,Bool.and_eq_false_imp,decide_eq_false_iff_not,zi0] at hm
  obtain ⟨hq,hn⟩:=hm
  have wf:=zcs hf
  rw [wf] at hq
  rw [show zoo (a * b)=zok (a * b) from if_pos hf]
  have hl:¬ (b = -1∧a = -9223372036854775808):=fun ⟨e1,e2⟩=>by
   subst e1; subst e2
   exact absurd hf (by decide)
  by_cases k1:a = -1
  ·have k2:=hn k1
   by_cases k3:b = -1
   ·have k4:¬ a = -9223372036854775808:=fun e=>hl ⟨k3,e⟩
    simp only [zae,zml,h0,wf,hq,eq_true k1,k2,eq_true k3,k4,simprocAttr]
    rfl
   ·simp only [zae,zml,h0,wf,hq,eq_true k1,k2,k3,simprocAttr]
    rfl
  ·by_cases k3:b = -1
   ·have k4:¬ a = -9223372036854775808:=fun e=>hl ⟨k3,e⟩
    simp only [zae,zml,h0,wf,hq,k1,eq_true k3,k4,simprocAttr]
    rfl
   ·simp only [zae,zml,h0,wf,hq,k1,k3,simprocAttr]
    rfl
 ·rw [decide_eq_false hf] at hm
  rw [show zoo (a * b)=zef 5 from if_neg hf]
  by_cases hq:IntKind.i64.wrap ((IntKind.i64.wrap (a * b)).tdiv a)=b
  ·simp only [hq,decide_true,Bool.not_true,Bool.false_or,Bool.not_false,Qi,Qh,zi0] at hm
   simp only [zae,zml,h0,hq,eq_true hm.1,eq_true hm.2,b5,simprocAttr]
  ·simp only [zae,zml,h0,hq,b5,simprocAttr]
theorem z1h (e290:E 290=some (.code zml))(e279:E 279=some (.code zw6)){op a b:Int}(ho:op=4 ∨ op=5 ∨ op=6)(ha:zcv a)(hb:zcv b):lcall E 290 [.d (.i .i64 op),.d (.i .i64 a),.d (.i .i64 b)] []=some ((zoz op a b).arg,[]):=by
 obtain ⟨s1,s2,s3⟩:=Zak ha hb
 rcases ho with h | h | h <;> subst h
 ·rw [s1]; exact zx0 e290 e279 ha hb
 ·rw [s2]; exact zx1 e290 e279 ha hb
 ·rw [s3]; exact zx2 e290 e279 ha hb
end Ab.Vx
