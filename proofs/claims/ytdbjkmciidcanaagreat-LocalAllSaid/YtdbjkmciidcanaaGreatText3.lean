/-
 local: each once; what hangs on what.
-/
import Derived.Test.YtdbjkmciidcanaaGreatText2
import Derived.Test.YtdbjkmciidcanaaGreatText1
set_option linter.unusedSimpArgs false
set_option linter.unusedVariables false
set_option linter.unusedSectionVars false
set_option linter.unnecessarySimpa false
set_option maxRecDepth 100000
set_option maxHeartbeats 2000000
namespace Ab
open Go
variable {E:Nat→Option Fn}
structure HE (E:Nat→Option Fn):Prop where
 e172:E 172=some (.code zxw)
 e175:E 175=some (.code z43)
 e191:E 191=some (.code z67)
def zff (seen:List (Int × Int)):List (Int × Int)→List (Int × Int)
 | []=>seen
 | x :: r=>zff (if x ∈ seen then seen else seen++[x]) r
def zv3:CCode:=match z67.body with
 | .seq _ (.seq _ (.seq (.seq _ (.block _ (.loop _ c))) _))=>c
 | _=>.skip
theorem z02 {x:Int × Int}{l:List (Int × Int)}(h:x ∈ l):zd4 x l < l.length:=by
 have:=zhk h
 have:=(List.getElem?_eq_some_iff.1 this).1
 simpa using this
theorem z9o {x1 x2:Int}{l:List (Int × Int)}(h:(x1,x2) ∈ l):zsa (l.map kvP) [.i .i64 x1,.i .i64 x2] (.d (.b true)) (zd4 (x1,x2) l)=l.map kvP:=by
 have hlt:=z02 h
 have hg:=zhk h
 unfold zsa
 rw [if_pos (by simpa using hlt)]
 apply List.ext_getElem?
 intro n
 by_cases e:zd4 (x1,x2) l=n
 ·subst e
  rw [List.getElem?_set_self (by simpa using hlt),hg]; rfl
 ·rw [List.getElem?_set_ne e]
theorem z03 {l:List (Int × Int)}(hl:l.length ≤ 100000){Q:Ex→St→Prop}:∀ (m i:Nat) (seen:List (Int × Int)),i + m=l.length→seen.length ≤ i →
  (∀ tm,za1 tm 2 = .own 1 0 2 ((zff seen (l.drop i)).map zaz)→Q (.exit 0) ⟨tm,[some (.map ((zff seen (l.drop i)).map kvP)),some (.tok 0 2)]⟩) →
  LX E zv3 ⟨[2,3,7,8,9],[2],[],[],[],true⟩ 2 ⟨[(2,.own 1 0 2 (seen.map zaz)),(3,.map 0),(7,.d (.l 2 (l.map zaz))),(8,.d (.i .i64 l.length)),(9,.d (.i .i64 i))],[some (.map (seen.map kvP)),some (.tok 0 2)]⟩ Q:=by
 intro m
 induction m with
 | zero =>
  intro i seen hi hs hQ
  have hn:¬ ((i:Int) < l.length):=by omega
  rw [List.drop_eq_nil_of_le (by omega)] at hQ
  refine zah ?_
  simp only [zab,simprocAttr,zaa,List.range'_one,zv3,z67,hn]
  exact hQ _ rfl
 | succ m ih =>
  intro i seen hi hs hQ
  have hy:(i:Int) < l.length:=by omega
  have la:i < l.length:=by omega
  have h0:(0:Int) ≤ i:=by omega
  have ga:(l.map zaz)[i]?=some [.i .i64 (l[i]).1,.i .i64 (l[i]).2]:=by rw [List.getElem?_map,Qd la]; rfl
  have w:IntKind.i64.wrap ((i:Int) + 1)=((i + 1:Nat):Int):=by rw [zda (by omega) (by omega)]; omega
  have r2:za4 (seen.length + 1) 16=true:=by unfold za4; exact Ql (by omega)
  rw [List.drop_eq_getElem_cons la] at hQ
  simp only [zff] at hQ
  generalize l[i]=x at *
  obtain ⟨x1,x2⟩:=x
  have ma:=zq9 x1 x2 seen
  have pp:=z2s (x:=(x1,x2)) (l:=seen)
  refine zah ?_
  by_cases hx:(x1,x2) ∈ seen
  ·rw [if_pos hx] at hQ
   have pk:lkB false (.d (.b false)) (seen.map kvP) (some (zd4 (x1,x2) seen))=some (.d (.b true)):=by simp only [lkB,zhk hx,got,kvP]; rfl
   have pi:=z9o hx
   simp only [zab,simprocAttr,zaa,List.range'_one,zv3,z67,eq_true hy,eq_true h0,ga,ma,pk,pi,w,zel,zgm]
   exact ⟨_,rfl,ih (i + 1) seen (by omega) (by omega) hQ⟩
  ·rw [if_neg hx] at hQ
   have pk:lkB false (.d (.b false)) (seen.map kvP) (some (zd4 (x1,x2) seen))=some (.d (.b false)):=by
    have:(seen.map kvP)[zd4 (x1,x2) seen]?=none:=Qe (by rw [zf6 hx]; simp)
    simp only [lkB,this,got]; rfl
   rw [zf6 hx] at ma pk
   simp only [zab,simprocAttr,zaa,List.range'_one,zv3,z67,eq_true hy,eq_true h0,ga,ma,pk,pp,r2,w,zel,zgm,Qf]
   have e1:seen.map zaz++[[D.i .i64 x1,.i .i64 x2]]=(seen++[(x1,x2)]).map zaz:=by simp [zaz]
   rw [e1]
   exact ⟨_,rfl,ih (i + 1) (seen++[(x1,x2)]) (by omega) (by simp; omega) hQ⟩
theorem zl1:∀ (l seen:List (Int × Int)),(zff seen l).length ≤ seen.length + l.length
 | [],seen=>Nat.le_refl _
 | x :: r,seen=>by
  have:=zl1 r (if x ∈ seen then seen else seen++[x])
  simp only [zff,List.length_cons]
  split at this <;> simp_all <;> omega
theorem z9p (A:HE E){l:List (Int × Int)}(hl:l.length ≤ 100000):lcall E 191 [.d (.l 2 (l.map zaz))] []=some (.d (.l 2 ((zff [] l).map zaz)),[]):=by
 refine zaq A.e191 ?_
 simp only [zab,simprocAttr,zaa,List.range'_one,z67,Qf]
 have h0:([]:List (List D × V))=([]:List (Int × Int)).map kvP:=rfl
 have h1:([]:List (List D))=([]:List (Int × Int)).map zaz:=rfl
 rw [h0,h1]
 refine z03 hl l.length 0 [] (by omega) (by simp) (fun tm h2=>?_)
 rw [List.drop_zero] at h2 ⊢
 simp only [zab,simprocAttr,zaa,List.range'_one,h2]
def zcx (e:(Int × Int) × (Int × Int)):List D:=[.i .i64 e.1.1,.i .i64 e.1.2,.i .i64 e.2.1,.i .i64 e.2.2]
def zb4 (r:GRule):List ((Int × Int) × (Int × Int)):=(zff [] (zbo r.e)).map fun x=>(x,r.at_)
def zbm (rs:List GRule):List ((Int × Int) × (Int × Int)):=rs.flatMap zb4
def z9q:CCode:=match zxw.body with
 | .seq _ (.seq _ (.seq (.seq _ (.block _ (.loop _ c))) _))=>c
 | _=>.skip
def Zmb:CCode:=match z9q with
 | .seq _ (.seq _ (.seq (.block _ (.seq _ (.seq _ (.block _ (.loop _ c))))) _))=>c
 | _=>.skip
abbrev bxR (r:GRule):Option Obj:=some (.box [.d (.i .i64 r.occ),.d (.i .i64 r.attr),.d (.i .i64 r.e.op),.d (.i .i64 r.e.v.kind),.d (.i .i64 r.e.v.i),.d (.s r.e.v.s),.d (.l 4 (zbu r.e.v.l)),.d (.i .i64 r.e.occ),.d (.i .i64 r.e.attr),.d (.l 8 (r.e.args.map Exp.row))])
theorem Zmc {g:Gram}{r:GRule}{v28 v29 v30:D}{xs:List (Int × Int)}{Q:Ex→St→Prop}(hx:xs.length ≤ 100000):∀ (m i:Nat) (out:List ((Int × Int) × (Int × Int))),i + m=xs.length→out.length + m ≤ 1000000 →
  (∀ tm,za1 tm 4 = .own 1 0 4 ((out++(xs.drop i).map fun x=>(x,r.at_)).map zcx)→za1 tm 28 = .d v28→za1 tm 29 = .d v29→za1 tm 30 = .d v30→Q (.exit 2) ⟨tm,[bxG g,some (.tok 0 4),bxR r]⟩) →
  LX E Zmb ⟨[4,6,28,29,30,37,38,39],[4],[],[],[],true⟩ 3 ⟨[(4,.own 1 0 4 (out.map zcx)),(6,.ptr 2 0),(28,.d v28),(29,.d v29),(30,.d v30),(37,.d (.l 2 (xs.map zaz))),(38,.d (.i .i64 xs.length)),(39,.d (.i .i64 i))],[bxG g,some (.tok 0 4),bxR r]⟩ Q:=by
 intro m
 induction m with
 | zero =>
  intro i out hi ho hQ
  have hn:¬ ((i:Int) < xs.length):=by omega
  rw [List.drop_eq_nil_of_le (by omega)] at hQ
  simp only [Qc,List.append_nil] at hQ
  refine zah ?_
  simp only [zab,simprocAttr,zaa,List.range'_one,Zmb,z9q,zxw,hn]
  exact hQ _ rfl rfl rfl rfl
 | succ m ih =>
  intro i out hi ho hQ
  have hy:(i:Int) < xs.length:=by omega
  have la:i < xs.length:=by omega
  have h0:(0:Int) ≤ i:=by omega
  have ga:(xs.map zaz)[i]?=some [.i .i64 (xs[i]).1,.i .i64 (xs[i]).2]:=by rw [List.getElem?_map,Qd la]; rfl
  have w:IntKind.i64.wrap ((i:Int) + 1)=((i + 1:Nat):Int):=by rw [zda (by omega) (by omega)]; omega
  have r2:za4 (out.length + 1) 32=true:=by unfold za4; exact Ql (by omega)
  rw [List.drop_eq_getElem_cons la] at hQ
  generalize xs[i]=x at *
  have ih':=ih (i + 1) (out++[(x,r.at_)]) (by omega) (by simp; omega) (fun tm k1 k2 k3 k4=>hQ tm (by rw [k1]; simp) k2 k3 k4)
  simp only [List.map_append,Qb,Qc] at ih'
  refine zah ?_
  simp only [zab,simprocAttr,zaa,List.range'_one,Zmb,z9q,zxw,eq_true hy,eq_true h0,ga,r2,w,Qf]
  exact ⟨_,rfl,ih'⟩
open Go
theorem Zd4 (A:AE E)(H:HE E){P:GVal→Prop}{g:Gram}{rs:List GRule}(hr:∀ r ∈ rs,AllV P r.e∧(zbo r.e).length ≤ 100){Q:Ex→St→Prop}(hl:rs.length ≤ 1000):∀ (m i:Nat) (out:List ((Int × Int) × (Int × Int))),i + m=rs.length→out.length ≤ 100 * i →
  (∀ tm,za1 tm 4 = .own 1 0 4 ((out++zbm (rs.drop i)).map zcx)→Q (.exit 0) ⟨tm,[bxG g,some (.tok 0 4)]⟩) →
  LX E z9q ⟨[4,28,29,30],[4],[],[],[],true⟩ 2 ⟨[(4,.own 1 0 4 (out.map zcx)),(28,.d (.l 10 (rs.map GRule.row))),(29,.d (.i .i64 rs.length)),(30,.d (.i .i64 i))],[bxG g,some (.tok 0 4)]⟩ Q:=by
 intro m
 induction m with
 | zero =>
  intro i out hi ho hQ
  have hn:¬ ((i:Int) < rs.length):=by omega
  rw [List.drop_eq_nil_of_le (by omega)] at hQ
  simp only [zbm,List.flatMap_nil,List.append_nil] at hQ
  refine zah ?_
  simp only [zab,simprocAttr,zaa,List.range'_one,z9q,zxw,hn]
  exact hQ _ rfl
 | succ m ih =>
  intro i out hi ho hQ
  have hy:(i:Int) < rs.length:=by omega
  have la:i < rs.length:=by omega
  have h0:(0:Int) ≤ i:=by omega
  have ga:(rs.map GRule.row)[i]?=some (rs[i]).row:=by rw [List.getElem?_map,Qd la]; rfl
  have w:IntKind.i64.wrap ((i:Int) + 1)=((i + 1:Nat):Int):=by rw [zda (by omega) (by omega)]; omega
  obtain ⟨hr1,hr2⟩:=hr _ (List.getElem_mem la)
  rw [List.drop_eq_getElem_cons la] at hQ
  generalize rs[i]=r at *
  have c1:=z2g A (sizeOf r.e + 1) r.e (by omega) hr1 (by omega)
  have c2:=z9p H (l:=zbo r.e) (by omega)
  have ol:=zl1 (zbo r.e) []
  simp only [List.length_nil,Nat.zero_add] at ol
  have hen:(zb4 r).length ≤ 100:=by simp only [zb4,Qf]; omega
  have st:=Zmc (E:=E) (g:=g) (r:=r) (v28:=.l 10 (rs.map GRule.row)) (v29:=.i .i64 rs.length) (v30:=.i .i64 i) (xs:=zff [] (zbo r.e)) (by omega)
   (Q:=zcw 2 (zcw 1 (zrx E (.region false [⟨some 54,.bin .add (.t 30) (.k (.d (.i .i64 1))),none,0⟩,⟨some 30,.mv (.t 54),none,0⟩]) (zaa E z9q ⟨[4,28,29,30],[4],[],[],[],true⟩ 2 Q))))
   (zff [] (zbo r.e)).length 0 out (by omega) (by omega) (fun tm k1 k2 k3 k4=>?_)
  ·refine zah ?_
   simp only [zab,simprocAttr,zaa,List.range'_one,z9q,zxw,eq_true hy,eq_true h0,ga,GRule.row,c1,c2,Qf]
   exact st
  ·rw [List.drop_zero] at k1
   have ih':=ih (i + 1) (out++zb4 r) (by omega) (by simp; omega) (fun tm k=>hQ tm (by rw [k]; simp [zbm]))
   simp only [zb4] at ih'
   simp only [zab,simprocAttr,zaa,List.range'_one,k1,k2,k3,k4,w]
   exact ⟨_,rfl,ih'⟩
theorem z44 (A:AE E)(H:HE E){P:GVal→Prop}{g:Gram}(hg:g.Ok)(cm:lcall E 169 [g.arg] []=some (.d (.b true),[])){k:Nat}(hk:k < g.prods.length)(hr:∀ r ∈ (g.prods[k]).rules,AllV P r.e∧(zbo r.e).length ≤ 100) :
  lcall E 172 [g.arg,.d (.i .i64 k)] []=some (.d (.l 4 ((zbm (g.prods[k]).rules).map zcx)),[]):=by
 have hp:=hg.prods
 have hrl:=(hg.prod _ (List.getElem_mem hk)).rules
 have g0:¬ (k:Int) < 0:=by omega
 have g1:¬ (k:Int) ≥ (g.prods.length:Int):=by omega
 have z0:(0:Int) ≤ (k:Int):=by omega
 have ga:(g.prods.map GProd.row)[k]?=some [.i .i64 (g.prods[k]).left,.l 2 ((g.prods[k]).right.map GSym.row),.l 10 ((g.prods[k]).rules.map GRule.row)]:=by rw [List.getElem?_map,Qd hk]; rfl
 generalize g.prods[k]=p at *
 refine zaq H.e172 ?_
 simp only [zab,simprocAttr,zaa,List.range'_one,zxw,Zfg,cm,g0,g1,Qf,ga,eq_true z0]
 have h1:([]:List (List D))=([]:List ((Int × Int) × (Int × Int))).map zcx:=rfl
 rw [h1]
 refine Zd4 A H (g:=g) (rs:=p.rules) hr hrl p.rules.length 0 [] (by omega) (by simp) (fun tm k1=>?_)
 rw [List.drop_zero,List.nil_append] at k1
 simp only [zab,simprocAttr,zaa,List.range'_one,k1]
open Go
inductive Leafy:Exp→Prop where
 | mk {e:Exp} (h1:e.op=1→e.args=[]) (ha:∀ x ∈ e.args,Leafy x) (hl:e.args.length ≤ 100):Leafy e
def z04:CCode:=match z43.body with
 | .seq _ (.seq _ (.seq _ (.seq (.seq _ (.block _ (.loop _ c))) _)))=>c
 | _=>.skip
theorem z9r {l:List Exp}{x1 x2 x3 x4 x5 x6 x7:D}(hl:l.length ≤ 100000)(hc:∀ x ∈ l,lcall E 175 [x.arg] []=some (.d (.l 2 ((zbo x).map zaz)),[])){Q:Ex→St→Prop}:∀ (m i:Nat) (out:List (Int × Int)),i + m=l.length→out.length + (za8 (l.drop i)).length ≤ 1000000 →
  (∀ tm,za1 tm 3 = .own 1 0 2 ((out++za8 (l.drop i)).map zaz)→Q (.exit 0) ⟨tm,[some (.box [.d x1,.d x2,.d x3,.d x4,.d x5,.d x6,.d x7,.d (.l 8 (l.map Exp.row))]),some (.tok 0 2)]⟩) →
  LX E z04 ⟨[1,3,4],[3],[],[],[],true⟩ 2 ⟨[(1,.ptr 0 0),(3,.own 1 0 2 (out.map zaz)),(4,.d (.i .i64 i))],[some (.box [.d x1,.d x2,.d x3,.d x4,.d x5,.d x6,.d x7,.d (.l 8 (l.map Exp.row))]),some (.tok 0 2)]⟩ Q:=by
 intro m
 induction m with
 | zero =>
  intro i out hi ho hQ
  have hn:¬ ((i:Int) < l.length):=by omega
  rw [List.drop_eq_nil_of_le (by omega)] at hQ
  simp only [za8,List.append_nil] at hQ
  refine zah ?_
  simp only [zab,simprocAttr,zaa,List.range'_one,z04,z43,hn,Qf]
  exact hQ _ rfl
 | succ m ih =>
  intro i out hi ho hQ
  have hy:(i:Int) < l.length:=by omega
  have la:i < l.length:=by omega
  have h0:(0:Int) ≤ i:=by omega
  have ga:(l.map Exp.row)[i]?=some (Exp.row l[i]):=by rw [List.getElem?_map,Qd la]; rfl
  have w:IntKind.i64.wrap ((i:Int) + 1)=((i + 1:Nat):Int):=by rw [zda (by omega) (by omega)]; omega
  have c1:=hc _ (List.getElem_mem la)
  rw [List.drop_eq_getElem_cons la] at hQ ho
  simp only [za8,Qg,← List.append_assoc] at hQ ho
  generalize l[i]=x at *
  rw [zfc] at ga
  have r2:za4 (out.length + (zbo x).length) 16=true:=by unfold za4; exact Ql (by omega)
  refine zah ?_
  simp only [zab,simprocAttr,zaa,List.range'_one,z04,z43,eq_true hy,eq_true h0,ga,c1,Qf,r2,zq8,w]
  refine ⟨_,rfl,ih (i + 1) (out++zbo x) (by omega) (by rw [Qg]; omega) hQ⟩
theorem z45 (H:HE E):∀ (n:Nat) (e:Exp),sizeOf e < n→Leafy e→(zbo e).length ≤ 1000000→lcall E 175 [e.arg] []=some (.d (.l 2 ((zbo e).map zaz)),[]):=by
 intro n
 induction n with
 | zero=>intro e hs; omega
 | succ n ih =>
  intro e hs ha hlen
  cases ha with
  | mk h1 hae hl =>
  rw [zke,Qg] at hlen
  have hc:∀ x ∈ e.args,lcall E 175 [x.arg] []=some (.d (.l 2 ((zbo x).map zaz)),[]):=fun x hx =>
   ih x (by have:=zlp hx; omega) (hae x hx) (by have:=zq7 hx; omega)
  refine zaq H.e175 ?_
  rw [zke]
  by_cases ho:e.op=1
  ·have ea:=h1 ho
   rw [if_pos ho,ea]
   simp only [zab,simprocAttr,zaa,List.range'_one,z43,eq_true ho,za8,List.append_nil,Qb,Qc,zaz]
  ·rw [if_neg ho] at hlen ⊢
   simp only [zab,simprocAttr,zaa,List.range'_one,z43,ho,Qf]
   refine z9r (by omega) hc e.args.length 0 [] (by omega) (by rw [List.drop_zero]; simpa using hlen) (fun tm h2=>?_)
   simp only [zab,simprocAttr,zaa,List.range'_one,z43,h2,List.drop_zero]
theorem InOk.leafy {g:Gram}{p:GProd}{e:Exp}(h:InOk g p e):Leafy e:=by
 cases h with
 | ref o a h=>exact .mk (fun _=>rfl) (fun x hx=>by simp [z2w,Exp.args] at hx) (by simp [z2w,Exp.args])
 | text o h=>exact .mk (fun _=>rfl) (fun x hx=>by simp [zlu,Exp.args] at hx) (by simp [zlu,Exp.args])
theorem Built.leafy {g:Gram}{p:GProd}{k:Nat}{e:Exp}(h:Built g p k e):Leafy e:=by
 induction h with
 | num x h0 h1=>exact .mk (fun _=>rfl) (fun x hx=>by simp [z2v,Exp.args] at hx) (by simp [z2v,Exp.args])
 | @op k o e i ho hb hi ih =>
  refine .mk (fun h=>?_) (fun x hx=>?_) (by simp [Exp.args])
  ·simp only [Exp.op] at h; omega
  ·simp only [Exp.args,List.mem_cons,List.not_mem_nil,or_false] at hx
   rcases hx with rfl | rfl
   ·exact ih
   ·exact hi.leafy
open Go
structure EndOk (g:Gram)(p:GProd)(z:Int × Int)(b:Bool)(nt:Int):Prop where
 z0:0 ≤ z.1
 zl:z.1 ≤ p.right.length
 left:z.1=0→nt=p.left
 right:0 < z.1→∃ s,p.right[(z.1 - 1).toNat]?=some s∧s.tok=false∧s.at_=nt
 a0:0 ≤ z.2
 ac:z.2 < za7 g nt
 inh:decide (decide (z.1=0)=zdf g nt z.2)=b
open Go
abbrev Edge:=(Int × Int) × (Int × Int)
open Go
open Go
theorem zv4 {x:Int × Int}:∀ {l s:List (Int × Int)},x ∈ zff s l→x ∈ s ∨ x ∈ l
 | [],s,h=>.inl h
 | y :: r,s,h=>by
  simp only [zff] at h
  rcases zv4 h with h | h
  ·split at h
   ·exact .inl h
   ·rcases List.mem_append.1 h with h | h
    ·exact .inl h
    ·rw [List.mem_singleton.1 h]; exact .inr List.mem_cons_self
  ·exact .inr (List.mem_cons_of_mem _ h)
theorem zxy {x:Int × Int}{s:List (Int × Int)}(h:s.Nodup)(hx:x ∉ s):(s++[x]).Nodup:=by
 rw [List.nodup_append]
 refine ⟨h,by simp,fun a ha b hb=>?_⟩
 rw [List.mem_singleton.1 hb]
 intro e; rw [e] at ha; exact hx ha
theorem zpa:∀ (l s:List (Int × Int)),s.Nodup→(zff s l).Nodup
 | [],s,h=>h
 | y :: r,s,h=>by
  simp only [zff]
  refine zpa r _ ?_
  split
  ·exact h
  ·rename_i hy; exact zxy h hy
theorem zpb (g:Gram)(p:GProd)(i:Int):∀ (n a:Nat),(zem g p i a n).Nodup
 | 0,a=>by simp [zem]
 | n + 1,a=>by
  simp only [zem]
  rw [List.nodup_append]
  refine ⟨by split <;> simp,zpb g p i n (a + 1),fun x hx y hy=>?_⟩
  have h2:=(zhu hy).2.1
  split at hx
  ·rw [List.mem_singleton.1 hx]
   intro e; rw [← e] at h2; simp at h2; omega
  ·simp at hx
theorem zpc (g:Gram)(p:GProd):∀ (n i:Nat),(zfr g p i n).Nodup
 | 0,i=>by simp [zfr]
 | n + 1,i=>by
  simp only [zfr]
  rw [List.nodup_append]
  refine ⟨zpb _ _ _ _ _,zpc g p n (i + 1),fun x hx y hy=>?_⟩
  have h1:=(zhu hx).1
  have h2:=(zra hy).1
  intro e; rw [← e,h1] at h2; omega
theorem zv5 {g:Gram}(hg:g.Ok){p:GProd}{x:Int × Int}:∀ {n i:Nat},x ∈ zfr g p i n→x.2 < za7 g (zcn p x.1).1
 | 0,i,h=>by simp [zfr] at h
 | n + 1,i,h=>by
  simp only [zfr,List.mem_append] at h
  rcases h with h | h
  ·obtain ⟨h1,h2,h3,_⟩:=zhu h
   rw [h1]
   have:=(zi9 hg (zcn p (i:Int)).1).1
   omega
  ·exact zv5 hg h
theorem z7d {p:GProd}{o nt:Int}(h:zcn p o=(nt,true)):0 ≤ o∧o ≤ p.right.length∧(o=0→nt=p.left)∧(0 < o→∃ s,p.right[(o - 1).toNat]?=some s∧s.tok=false∧s.at_=nt):=by
 unfold zcn at h
 split at h
 ·rename_i e
  simp only [Qj,and_true] at h
  exact ⟨by omega,by omega,fun _=>h.symm,fun hp=>by omega⟩
 ·rename_i e0
  split at h
  ·simp at h
  ·rename_i e1
   split at h
   ·rename_i s hs
    split at h
    ·simp at h
    ·rename_i ht
     simp only [Qj,and_true] at h
     exact ⟨by omega,by omega,fun e=>absurd e e0,fun _=>⟨s,hs,by simpa using ht,h⟩⟩
   ·simp at h
theorem z46 {g:Gram}{p:GProd}{z:Int × Int}(h:inF g p z=true):∃ nt,EndOk g p z true nt:=by
 simp only [inF,Qi,Qh] at h
 obtain ⟨h1,h2,h3,h4⟩:=h
 have he:zcn p z.1=((zcn p z.1).1,true):=by rw [← h1]
 obtain ⟨a,b,c,d⟩:=z7d he
 exact ⟨(zcn p z.1).1,a,b,c,d,h2,h3,Ql h4.symm⟩
theorem Zd5 {g:Gram}{p:GProd}{z:Int × Int}(h:ze2 g p z=true)(h2:0 ≤ z.2)(h3:z.2 < za7 g (zcn p z.1).1):∃ nt,EndOk g p z false nt:=by
 simp only [ze2,Qi,Bool.not_eq_true'] at h
 obtain ⟨h1,h4⟩:=h
 have he:zcn p z.1=((zcn p z.1).1,true):=by rw [← h1]
 obtain ⟨a,b,c,d⟩:=z7d he
 refine ⟨(zcn p z.1).1,a,b,c,d,h2,h3,decide_eq_false (fun e=>?_)⟩
 have:inF g p z=true:=by simp only [inF,h1,Ql h2,Ql h3,Ql e.symm,Bool.and_self]
 rw [this] at h4; cases h4
theorem zm4:∀ (rs:List GRule),(rs.map GRule.at_).Nodup→(zbm rs).Nodup
 | [],_=>by simp [zbm]
 | r :: rs,h=>by
  rw [Qb,List.nodup_cons] at h
  simp only [zbm,List.flatMap_cons]
  rw [List.nodup_append]
  refine ⟨?_,zm4 rs h.2,fun x hx y hy=>?_⟩
  ·have:=zpa (zbo r.e) [] (by simp)
   simp only [zb4]
   exact List.Pairwise.map _ (fun a b hab e=>hab (by simpa using congrArg Prod.fst e)) this
  ·simp only [zb4,List.mem_map] at hx
   obtain ⟨a,_,rfl⟩:=hx
   obtain ⟨r',hr',hy⟩:=List.mem_flatMap.1 hy
   simp only [zb4,List.mem_map] at hy
   obtain ⟨b,_,rfl⟩:=hy
   intro e
   have:r.at_=r'.at_:=congrArg Prod.snd e
   exact h.1 (this ▸ List.mem_map_of_mem hr')
theorem MadeG.edges {g:Gram}(h:MadeG g){p:GProd}(hp:p ∈ g.prods):(zbm p.rules).Nodup∧∀ e ∈ zbm p.rules,(∃ nt,EndOk g p e.1 true nt)∧∃ nt,EndOk g p e.2 false nt:=by
 have hw:=h.wants hp
 refine ⟨zm4 _ (by rw [hw]; exact zpc ..),fun e he=>?_⟩
 obtain ⟨r,hr,he⟩:=List.mem_flatMap.1 he
 simp only [zb4,List.mem_map] at he
 obtain ⟨x,hx,rfl⟩:=he
 have hx':x ∈ zbo r.e:=by
  rcases zv4 hx with hx | hx
  ·simp at hx
  ·exact hx
 have hm:r.at_ ∈ zd6 g p:=by rw [← hw]; exact List.mem_map_of_mem hr
 obtain ⟨_,_,h2,h3⟩:=zra hm
 exact ⟨z46 ((h.rule hp hr).refs x hx'),Zd5 h3 h2 (zv5 h.ok hm)⟩
theorem MadeG.leafy {g:Gram}(h:MadeG g){p:GProd}(hp:p ∈ g.prods):∀ r ∈ p.rules,Leafy r.e∧(zbo r.e).length ≤ 100:=fun r hr=>by
 obtain ⟨k,hk,hb⟩:=(h.prods p hp).made r hr
 exact ⟨hb.leafy,by have:=(h.rule hp hr).few; omega⟩
theorem z05 {rs:List GRule}(h:∀ r ∈ rs,(zbo r.e).length ≤ 100):(zbm rs).length ≤ 100 * rs.length:=by
 induction rs with
 | nil=>simp [zbm]
 | cons r rs ih =>
  have i1:=ih (fun r' hr'=>h r' (List.mem_cons_of_mem _ hr'))
  have i2:=h r List.mem_cons_self
  have i3:=zl1 (zbo r.e) []
  simp only [zbm,List.flatMap_cons,Qg,zb4,Qf,List.length_cons,List.length_nil] at *
  omega
open Go
end Ab
/-
 KCode: stands in GCode.
-/
namespace Ab
open Go
variable {E:Nat→Option Fn}
structure KE (E:Nat→Option Fn):Prop where
 e418:E 418=some (.code z7b)
 e419:E 419=some (.code z7c)
 e420:E 420=some (.code zuh)
 e402:E 402=some (.code zl0)
theorem z7e (K:KE E)(g:Gram){p:GProd}(hp:p.Ok)(i:Int):lcall E 418 [g.arg,p.arg,.d (.i .i64 i)] []=some (.tup [.d (.i .i64 (zcn p i).1),.d (.b (zcn p i).2)],[]):=by
 have hr:=hp.right
 refine zaq K.e418 ?_
 by_cases h0:i=0
 ·simp only [zab,simprocAttr,zaa,List.range'_one,z7b,eq_true h0,zcn]
 ·by_cases h1:i < 1
  ·have h1':i < 0:=by omega
   simp only [zab,simprocAttr,zaa,List.range'_one,z7b,h0,eq_true h1,eq_true h1',zcn,true_or]
  ·have h1':¬ i < 0:=by omega
   by_cases h2:i > p.right.length
   ·simp only [zab,simprocAttr,zaa,List.range'_one,z7b,h0,h1,h1',eq_true h2,zcn,or_true,Qf]
   ·have w:IntKind.i64.wrap (i - 1)=i - 1:=zda (by omega) (by omega)
    have h3:0 ≤ i - 1:=by omega
    obtain ⟨s,hs,_⟩:=zkd (l:=p.right) h3 (by omega)
    have gs:(p.right.map GSym.row)[(i - 1).toNat]?=some [.b s.tok,.i .i64 s.at_]:=by rw [List.getElem?_map,hs]; rfl
    cases ht:s.tok
    ·rw [ht] at gs
     simp only [zab,simprocAttr,zaa,List.range'_one,z7b,h0,h1,h1',h2,zcn,or_self,Qf,w,eq_true h3,hs,ht,gs]
     try rfl
    ·rw [ht] at gs
     simp only [zab,simprocAttr,zaa,List.range'_one,z7b,h0,h1,h1',h2,zcn,or_self,Qf,w,eq_true h3,hs,ht,gs]
     try rfl
def z7f (g:Gram)(p:GProd)(x:Int × Int):Bool:=(zcn p x.1).2 && (decide (0 ≤ x.2) && (decide (x.2 < za7 g (zcn p x.1).1) && !decide (zdf g (zcn p x.1).1 x.2=decide (x.1=0))))
theorem zui (B:PE E)(K:KE E){g:Gram}(hg:g.Ok){p:GProd}(hp:p.Ok)(o a:Int):lcall E 419 [g.arg,p.arg,.d (.i .i64 o),.d (.i .i64 a)] []=some (.tup [.d (.b (z7f g p (o,a))),.d (.b (inF g p (o,a)))],[]):=by
 have c1:=z7e K g hp o
 have c2:=zn6 B hg (zcn p o).1
 have c3:=zth B hg (zcn p o).1 a
 refine zaq K.e419 ?_
 unfold z7f inF
 simp only
 generalize zcn p o=q at *
 obtain ⟨n,ok⟩:=q
 simp only at c1 c2 c3 ⊢
 cases ok
 ·simp only [zab,simprocAttr,zaa,List.range'_one,z7c,c1]
  try rfl
 ·by_cases h0:a < 0
  ·have h0':¬ 0 ≤ a:=by omega
   simp only [zab,simprocAttr,zaa,List.range'_one,z7c,c1,eq_true h0,decide_eq_false h0']
   try rfl
  ·have h0':0 ≤ a:=by omega
   by_cases h1:a ≥ za7 g n
   ·have h1':¬ a < za7 g n:=by omega
    simp only [zab,simprocAttr,zaa,List.range'_one,z7c,c1,c2,h0,eq_true h1,decide_eq_false h1',Ql h0']
    try rfl
   ·have h1':a < za7 g n:=by omega
    by_cases hi:zdf g n a=decide (o=0)
    ·have e1:decide (decide (o=0)=zdf g n a)=true:=Ql hi.symm
     have e2:decide (¬ decide (o=0)=zdf g n a)=false:=decide_eq_false (fun h=>h hi.symm)
     simp only [zab,simprocAttr,zaa,List.range'_one,z7c,c1,c2,c3,h0,h1,e1,e2,Ql hi,Ql h0',Ql h1']
     try rfl
    ·have e1:decide (decide (o=0)=zdf g n a)=false:=decide_eq_false (fun h=>hi h.symm)
     have e2:decide (¬ decide (o=0)=zdf g n a)=true:=Ql (fun h=>hi h.symm)
     simp only [zab,simprocAttr,zaa,List.range'_one,z7c,c1,c2,c3,h0,h1,e1,e2,decide_eq_false hi,Ql h0',Ql h1']
     try rfl
open Go
mutual
def z06 (g:Gram)(p:GProd):Exp→Bool
 | .mk op v occ attr args=>if op=1 then inF g p (occ,attr) else if op=2 ∨ op=3 then !zbw p op occ else zh6 g p args
def zh6 (g:Gram)(p:GProd):List Exp→Bool
 | []=>true
 | x :: r=>z06 g p x && zh6 g p r
end
theorem z07 (g:Gram)(p:GProd)(e:Exp):z06 g p e=if e.op=1 then inF g p (e.occ,e.attr) else if e.op=2 ∨ e.op=3 then !zbw p e.op e.occ else zh6 g p e.args:=by
 cases e; simp only [z06]; rfl
def zqi:CCode:=match zuh.body with
 | .seq _ (.seq _ (.seq (.seq _ (.block _ (.loop _ c))) _))=>c
 | _=>.skip
abbrev bxE (e:Exp):Option Obj:=some (.box [.d (.i .i64 e.op),.d (.i .i64 e.v.kind),.d (.i .i64 e.v.i),.d (.s e.v.s),.d (.l 4 (zbu e.v.l)),.d (.i .i64 e.occ),.d (.i .i64 e.attr),.d (.l 8 (e.args.map Exp.row))])
theorem z47 {g:Gram}{p:GProd}{e:Exp}(hl:e.args.length ≤ 100000)(hc:∀ x ∈ e.args,lcall E 420 [g.arg,p.arg,x.arg] []=some (.d (.b (z06 g p x)),[])){Q:Ex→St→Prop}
  (hno:∀ tm hp,zh6 g p e.args=false→za1 tm 6 = .d (.b false)→Q .ret ⟨tm,hp⟩) (hyes:∀ tm hp,zh6 g p e.args=true→Q (.exit 1) ⟨tm,hp⟩):∀ (m i:Nat),i + m=e.args.length→zh6 g p e.args=zh6 g p (e.args.drop i) →
  LX E zqi ⟨[3,4,5,9],[],[],[],[],true⟩ 3 ⟨[(3,.ptr 0 0),(4,.ptr 1 0),(5,.ptr 2 0),(9,.d (.i .i64 i))],[bxG g,bxP p,bxE e]⟩ Q:=by
 intro m
 induction m with
 | zero =>
  intro i hi he
  have hn:¬ ((i:Int) < (e.args.length:Int)):=by omega
  rw [List.drop_eq_nil_of_le (by omega)] at he
  refine zah ?_
  simp only [zab,simprocAttr,zaa,List.range'_one,zqi,zuh,hn,Qf]
  exact hyes _ _ he
 | succ m ih =>
  intro i hi he
  have hy:(i:Int) < (e.args.length:Int):=by omega
  have la:i < e.args.length:=by omega
  have h0:(0:Int) ≤ i:=by omega
  have ga:(e.args.map Exp.row)[i]?=some (Exp.row e.args[i]):=by rw [List.getElem?_map,Qd la]; rfl
  have w:IntKind.i64.wrap ((i:Int) + 1)=((i + 1:Nat):Int):=by rw [zda (by omega) (by omega)]; omega
  have c1:=hc _ (List.getElem_mem la)
  rw [List.drop_eq_getElem_cons la] at he
  simp only [zh6] at he
  generalize e.args[i]=x at *
  rw [zfc] at ga
  refine zah ?_
  cases hx:z06 g p x
  ·rw [hx] at he c1
   simp only [zab,simprocAttr,zaa,List.range'_one,zqi,zuh,eq_true hy,eq_true h0,ga,c1,Qf]
   refine ⟨by rfl,hno _ _ (by rw [he]; rfl) ?_⟩
   simp only [zab,simprocAttr,zaa,List.range'_one]
  ·rw [hx] at he c1
   simp only [zab,simprocAttr,zaa,List.range'_one,zqi,zuh,eq_true hy,eq_true h0,ga,c1,w,Qf]
   exact ⟨by rfl,_,rfl,ih (i + 1) (by omega) (by rw [he,Bool.true_and])⟩
theorem Zd6 (B:PE E)(K:KE E){P:GVal→Prop}{g:Gram}(hg:g.Ok){p:GProd}(hp:p.Ok):∀ (n:Nat) (e:Exp),sizeOf e < n→AllV P e→lcall E 420 [g.arg,p.arg,e.arg] []=some (.d (.b (z06 g p e)),[]):=by
 intro n
 induction n with
 | zero=>intro e hs; omega
 | succ n ih =>
  intro e hs ha
  cases ha with
  | mk hve hae hl =>
  have hc:∀ x ∈ e.args,lcall E 420 [g.arg,p.arg,x.arg] []=some (.d (.b (z06 g p x)),[]):=fun x hx=>ih x (by have:=zlp hx; omega) (hae x hx)
  have c1:=zui B K hg hp e.occ e.attr
  have hr:=hp.right
  refine zaq K.e420 ?_
  rw [z07]
  by_cases h1:e.op=1
  ·rw [if_pos h1]
   simp only [zab,simprocAttr,zaa,List.range'_one,zuh,eq_true h1,c1]
  ·rw [if_neg h1]
   by_cases h23:e.op=2 ∨ e.op=3
   ·rw [if_pos h23]
    have hb:(decide (e.op=2) || decide (e.op=3))=true:=by rcases h23 with h | h <;> simp [h]
    have fin:lcall E 420 [g.arg,p.arg,e.arg] []=lcall E 420 [g.arg,p.arg,e.arg] []:=rfl
    unfold zbw
    rw [hb,Bool.true_and]
    by_cases o1:e.occ ≥ 1
    ·have o1':¬ e.occ < 1:=by omega
     by_cases o2:e.occ ≤ (p.right.length:Int)
     ·have o2':¬ e.occ > (p.right.length:Int):=by omega
      have w:IntKind.i64.wrap (e.occ - 1)=e.occ - 1:=zda (by omega) (by omega)
      have h3:0 ≤ e.occ - 1:=by omega
      obtain ⟨s,hs,_⟩:=zkd (l:=p.right) h3 (by omega)
      have gs:(p.right.map GSym.row)[(e.occ - 1).toNat]?=some [.b s.tok,.i .i64 s.at_]:=by rw [List.getElem?_map,hs]; rfl
      rcases h23 with h | h
      ·simp only [zab,simprocAttr,zaa,List.range'_one,zuh,h1,eq_true h,eq_true o1,eq_true o2,w,eq_true h3,gs,hs,decide_eq_false o1',decide_eq_false o2',Qf,Bool.not_not]
      ·have h2:¬ e.op=2:=by omega
       simp only [zab,simprocAttr,zaa,List.range'_one,zuh,h1,h2,eq_true h,eq_true o1,eq_true o2,w,eq_true h3,gs,hs,decide_eq_false o1',decide_eq_false o2',Qf,Bool.not_not]
     ·have o2':e.occ > (p.right.length:Int):=by omega
      rcases h23 with h | h
      ·simp only [zab,simprocAttr,zaa,List.range'_one,zuh,h1,eq_true h,eq_true o1,o2,decide_eq_false o1',Ql o2',Qf,Bool.not_not]
      ·have h2:¬ e.op=2:=by omega
       simp only [zab,simprocAttr,zaa,List.range'_one,zuh,h1,h2,eq_true h,eq_true o1,o2,decide_eq_false o1',Ql o2',Qf,Bool.not_not]
    ·have o1':e.occ < 1:=by omega
     rcases h23 with h | h
     ·simp only [zab,simprocAttr,zaa,List.range'_one,zuh,h1,eq_true h,o1,Ql o1',Qf,Bool.not_not]
     ·have h2:¬ e.op=2:=by omega
      simp only [zab,simprocAttr,zaa,List.range'_one,zuh,h1,h2,eq_true h,o1,Ql o1',Qf,Bool.not_not]
   ·rw [if_neg h23]
    have h2:¬ e.op=2:=fun h=>h23 (.inl h)
    have h3:¬ e.op=3:=fun h=>h23 (.inr h)
    simp only [zab,simprocAttr,zaa,List.range'_one,zuh,h1,h2,h3,Qf]
    refine z47 hl hc (fun tm hp h h6=>?_) (fun tm hp h=>?_) e.args.length 0 (by omega) (by rw [List.drop_zero])
    ·rw [h]
     simp only [zab,simprocAttr,zaa,List.range'_one,h6]
    ·rw [h]
     simp only [zab,simprocAttr,zaa,List.range'_one]
open Go
def z7g:CCode:=match zsf.body with
 | .seq _ (.seq _ (.seq (.seq _ (.block _ (.loop _ c))) _))=>c
 | _=>.skip
def Zjo:CCode:=match z7g with
 | .seq _ (.seq (.block _ (.seq _ (.seq (.seq _ (.block _ (.loop _ c))) _))) _)=>c
 | _=>.skip
theorem Zmd {l s:List (Int × Int)}{i:Nat}{x:Int × Int}(gi:(l.map zaz)[i]?=some [.i .i64 x.1,.i .i64 x.2])(hs:s.length ≤ 100000){Q:Ex→St→Prop}
  (hQ:∀ tm,za1 tm 0 = .d (.l 2 (l.map zaz))→za1 tm 3 = .own 0 0 2 (s.map zaz)→za1 tm 4 = .d (.i .i64 i)→za1 tm 5 = .d (.b (decide (x ∈ s)))→Q (.exit 2) ⟨tm,[some (.tok 0 2)]⟩) :
  ∀ (m j:Nat) (t:Bool),j + m=s.length→(t || (s.drop j).any fun y=>decide (y=x))=decide (x ∈ s) →
  LX E Zjo ⟨[0,3,4,5,6],[],[],[],[],true⟩ 1 ⟨[(0,.d (.l 2 (l.map zaz))),(3,.own 0 0 2 (s.map zaz)),(4,.d (.i .i64 i)),(5,.d (.b t)),(6,.d (.i .i64 j))],[some (.tok 0 2)]⟩ Q:=by
 intro m
 induction m with
 | zero =>
  intro j t hj ht
  have hn:¬ ((j:Int) < (s.length:Int)):=by omega
  rw [List.drop_eq_nil_of_le (by omega)] at ht
  simp only [List.any_nil,Bool.or_false] at ht
  rw [ht]
  refine zah ?_
  simp only [zab,simprocAttr,zaa,List.range'_one,Zjo,z7g,zsf,hn,Qf]
  exact hQ _ rfl rfl rfl rfl
 | succ m ih =>
  intro j t hj ht
  have hy:(j:Int) < (s.length:Int):=by omega
  have lj:j < s.length:=by omega
  have j0:(0:Int) ≤ j:=by omega
  have i0:(0:Int) ≤ i:=by omega
  have w:IntKind.i64.wrap ((j:Int) + 1)=((j + 1:Nat):Int):=by rw [zda (by omega) (by omega)]; omega
  have gj:(s.map zaz)[j]?=some [.i .i64 (s[j]).1,.i .i64 (s[j]).2]:=by rw [List.getElem?_map,Qd lj]; rfl
  rw [List.drop_eq_getElem_cons lj,List.any_cons,← Bool.or_assoc] at ht
  have q:=z7q (s[j]).1 (s[j]).2 x.1 x.2
  generalize s[j]=y at *
  have ih':=ih (j + 1) (t || decide (y=x)) (by omega) ht
  refine zah ?_
  cases t
  ·simp only [zab,simprocAttr,zaa,List.range'_one,Zjo,z7g,zsf,eq_true hy,gi,gj,q,eq_true i0,eq_true j0,w,Qf]
   refine ⟨by rfl,_,rfl, ?_⟩
   rw [Bool.false_or] at ih'
   exact ih'
  ·simp only [zab,simprocAttr,zaa,List.range'_one,Zjo,z7g,zsf,eq_true hy,gi,gj,eq_true i0,eq_true j0,w,Qf]
   refine ⟨by rfl,_,rfl, ?_⟩
   rw [Bool.true_or] at ih'
   exact ih'
theorem z9s {x:Int × Int}(s:List (Int × Int)):(s.any fun y=>decide (y=x))=decide (x ∈ s):=by
 rw [Bool.eq_iff_iff]
 simp only [List.any_eq_true,Qh]
 exact ⟨fun ⟨y,hy,e⟩=>e ▸ hy,fun h=>⟨x,h,rfl⟩⟩
theorem Zd7 {l:List (Int × Int)}(hl:l.length ≤ 100000){Q:Ex→St→Prop}
  (hQ:∀ tm,za1 tm 3 = .own 0 0 2 ((zff [] l).map zaz)→Q (.exit 0) ⟨tm,[some (.tok 0 2)]⟩) :
  ∀ (m i:Nat) (s:List (Int × Int)),i + m=l.length→s.length ≤ i→zff s (l.drop i)=zff [] l →
  LX E z7g ⟨[0,3,4],[3],[],[],[],true⟩ 1 ⟨[(0,.d (.l 2 (l.map zaz))),(3,.own 0 0 2 (s.map zaz)),(4,.d (.i .i64 i))],[some (.tok 0 2)]⟩ Q:=by
 intro m
 induction m with
 | zero =>
  intro i s hi hs he
  have hn:¬ ((i:Int) < (l.length:Int)):=by omega
  rw [List.drop_eq_nil_of_le (by omega)] at he
  simp only [zff] at he
  rw [← he] at hQ
  refine zah ?_
  simp only [zab,simprocAttr,zaa,List.range'_one,z7g,zsf,hn,Qf]
  exact hQ _ rfl
 | succ m ih =>
  intro i s hi hs he
  have hy:(i:Int) < (l.length:Int):=by omega
  have la:i < l.length:=by omega
  have i0:(0:Int) ≤ i:=by omega
  have w:IntKind.i64.wrap ((i:Int) + 1)=((i + 1:Nat):Int):=by rw [zda (by omega) (by omega)]; omega
  have gi:(l.map zaz)[i]?=some [.i .i64 (l[i]).1,.i .i64 (l[i]).2]:=by rw [List.getElem?_map,Qd la]; rfl
  have r2:za4 (s.length + 1) 16=true:=by unfold za4; exact Ql (by omega)
  rw [List.drop_eq_getElem_cons la] at he
  simp only [zff] at he
  generalize l[i]=x at *
  have st:=Zmd (E:=E) (l:=l) (s:=s) (i:=i) (x:=x) gi (by omega)
   (Q:=zcw 2 (zrx E (.seq (.region false [⟨some 31,.mv (.t 5),none,0⟩,⟨some 32,.un .not (.t 31),none,0⟩]) (.cond (.t 32) (.region false [⟨some 33,.mv (.t 3),none,0⟩,⟨some 34,.mv (.t 0),none,0⟩,⟨some 35,.mv (.t 4),none,0⟩,⟨some 36,.ia 2 (.t 34) (.t 35),none,0⟩,⟨some 37,.ld true 2 (.t 36),none,0⟩,⟨some 38,.bsl 2 1 [.i .i64 0,.i .i64 0] [(0,.t 37)],none,0⟩,⟨some 39,.app 2 16 (.t 33) (.t 38),none,0⟩,⟨some 3,.mv (.t 39),none,0⟩]) .skip))
    (zcw 1 (zrx E (.region false [⟨some 11,.mv (.t 4),none,0⟩,⟨some 12,.bin .add (.t 11) (.k (.d (.i .i64 1))),none,0⟩,⟨some 4,.mv (.t 12),none,0⟩]) (zaa E z7g ⟨[0,3,4],[3],[],[],[],true⟩ 1 Q)))))
   (fun tm k0 k3 k4 k5=>?_) s.length 0 false (by omega) (by rw [Bool.false_or,List.drop_zero]; exact z9s s)
  ·refine zah ?_
   simp only [zab,simprocAttr,zaa,List.range'_one,z7g,zsf,eq_true hy,Qf]
   exact st
  ·by_cases hx:x ∈ s
   ·rw [if_pos hx] at he
    simp only [zab,simprocAttr,zaa,List.range'_one,k0,k3,k4,k5,w,Ql hx]
    exact ⟨_,rfl,ih (i + 1) s (by omega) (by omega) he⟩
   ·rw [if_neg hx] at he
    have ih':=ih (i + 1) (s++[x]) (by omega) (by simp; omega) he
    simp only [List.map_append,Qb,Qc] at ih'
    simp only [zab,simprocAttr,zaa,List.range'_one,k0,k3,k4,k5,w,decide_eq_false hx,gi,eq_true i0,r2,Qf]
    exact ⟨_,rfl,ih'⟩
theorem z48 (e411:E 411=some (.code zsf)){l:List (Int × Int)}(hl:l.length ≤ 100000):lcall E 411 [.d (.l 2 (l.map zaz))] []=some (.d (.l 2 ((zff [] l).map zaz)),[]):=by
 refine zaq e411 ?_
 simp only [zab,simprocAttr,zaa,List.range'_one,zsf,Qf]
 have h1:([]:List (List D))=([]:List (Int × Int)).map zaz:=rfl
 rw [h1]
 refine Zd7 hl (fun tm h3=>?_) l.length 0 [] (by omega) (by simp) (by rw [List.drop_zero])
 simp only [zab,simprocAttr,zaa,List.range'_one,h3]
open Go
def zh7:CCode:=match zre.body with
 | .seq _ (.seq (.seq _ (.block _ (.loop _ c))) _)=>c
 | _=>.skip
theorem zxz {s:List UInt8}(hs:s.length ≤ 1000000){Q:Ex→St→Prop}(hno:∀ tm hp,zdl s 0=false→za1 tm 2 = .d (.b false)→Q .ret ⟨tm,hp⟩)(hyes:∀ tm,zdl s 0=true→za1 tm 0 = .d (.s s)→Q (.exit 0) ⟨tm,[]⟩) :
  ∀ (m i:Nat),i + m=s.length→zdl s 0=zdl (s.drop i) i →
  LX E zh7 ⟨[0,3],[],[],[],[],true⟩ 0 ⟨[(0,.d (.s s)),(3,.d (.i .i64 i))],[]⟩ Q:=by
 intro m
 induction m with
 | zero =>
  intro i hi he
  have hn:¬ ((i:Int) < s.length):=by omega
  rw [List.drop_eq_nil_of_le (by omega)] at he
  refine zah ?_
  simp only [zab,simprocAttr,zaa,List.range'_one,zh7,zre,hn]
  exact hyes _ he rfl
 | succ m ih =>
  intro i hi he
  have hy:(i:Int) < s.length:=by omega
  have la:i < s.length:=by omega
  have h0:(0:Int) ≤ i:=by omega
  have ga:s[i]?=some s[i]:=Qd la
  have w:IntKind.i64.wrap ((i:Int) + 1)=((i + 1:Nat):Int):=by rw [zda (by omega) (by omega)]; omega
  rw [List.drop_eq_getElem_cons la] at he
  simp only [zdl] at he
  generalize s[i]=c at *
  have fin1:zd2 i c=true→∀ tm hp,za1 tm 2 = .d (.b false)→Q .ret ⟨tm,hp⟩:=fun hb tm hp h2=>hno tm hp (by rw [he,hb]; rfl) h2
  have go1:zd2 i c=false→LX E zh7 ⟨[0,3],[],[],[],[],true⟩ 0 ⟨[(0,.d (.s s)),(3,.d (.i .i64 ((i + 1:Nat):Int)))],[]⟩ Q:=fun hb=>ih (i + 1) (by omega) (by rw [he,hb]; rfl)
  refine zah ?_
  by_cases a1:(c.toNat:Int) ≥ 97
  ·by_cases a2:(c.toNat:Int) ≤ 122
   ·have hb:zd2 i c=false:=by simp [zd2,zfd]; omega
    simp only [zab,simprocAttr,zaa,List.range'_one,zh7,zre,eq_true hy,h0,ga,w,eq_true a1,eq_true a2]
    exact ⟨_,rfl,go1 hb⟩
   ·have hl:zfd c=false:=by simp [zfd]; omega
    have b1:¬ (c.toNat:Int) < 48:=by omega
    have b2:(c.toNat:Int) > 57:=by omega
    have hb:zd2 i c=true:=by simp [zd2,hl]; omega
    by_cases i0:(i:Int)=0
    ·simp only [zab,simprocAttr,zaa,List.range'_one,zh7,zre,eq_true hy,h0,ga,w,eq_true a1,a2,eq_true i0]
     refine fin1 hb _ _ ?_
     simp only [zab,simprocAttr,zaa,List.range'_one]
    ·simp only [zab,simprocAttr,zaa,List.range'_one,zh7,zre,eq_true hy,h0,ga,w,eq_true a1,a2,i0,b1,eq_true b2]
     refine fin1 hb _ _ ?_
     simp only [zab,simprocAttr,zaa,List.range'_one]
  ·have hl:zfd c=false:=by simp [zfd]; omega
   by_cases i0:(i:Int)=0
   ·have hb:zd2 i c=true:=by simp [zd2,hl]; omega
    simp only [zab,simprocAttr,zaa,List.range'_one,zh7,zre,eq_true hy,h0,ga,w,a1,eq_true i0]
    refine fin1 hb _ _ ?_
    simp only [zab,simprocAttr,zaa,List.range'_one]
   ·by_cases b1:(c.toNat:Int) < 48
    ·have hb:zd2 i c=true:=by simp [zd2,hl]; omega
     simp only [zab,simprocAttr,zaa,List.range'_one,zh7,zre,eq_true hy,h0,ga,w,a1,i0,eq_true b1]
     refine fin1 hb _ _ ?_
     simp only [zab,simprocAttr,zaa,List.range'_one]
    ·by_cases b2:(c.toNat:Int) > 57
     ·have hb:zd2 i c=true:=by simp [zd2,hl]; omega
      simp only [zab,simprocAttr,zaa,List.range'_one,zh7,zre,eq_true hy,h0,ga,w,a1,i0,b1,eq_true b2]
      refine fin1 hb _ _ ?_
      simp only [zab,simprocAttr,zaa,List.range'_one]
     ·have hb:zd2 i c=false:=by simp [zd2,hl]; omega
      simp only [zab,simprocAttr,zaa,List.range'_one,zh7,zre,eq_true hy,h0,ga,w,a1,i0,b1,b2]
      exact ⟨_,rfl,go1 hb⟩
theorem z49 (e429:E 429=some (.code zre)){s:List UInt8}(hs:s.length ≤ 1000000):lcall E 429 [.d (.s s)] []=some (.d (.b (zfj s)),[]):=by
 refine zaq e429 ?_
 simp only [zab,simprocAttr,zaa,List.range'_one,zre]
 refine zxz hs (fun tm hp h h2=>?_) (fun tm h k0=>?_) s.length 0 (by omega) (by rw [List.drop_zero])
 ·have:zfj s=false:=by simp only [zfj,h,Bool.and_false]
  rw [this]
  simp only [zab,simprocAttr,zaa,List.range'_one,h2]
 ·by_cases g1:(s.length:Int) ≥ 1
  ·have g1':1 ≤ s.length:=by omega
   by_cases g2:(s.length:Int) ≤ 8
   ·have:zfj s=true:=by simp only [zfj,h,Ql g1',Ql (show s.length ≤ 8 by omega),Bool.and_self]
    rw [this]
    simp only [zab,simprocAttr,zaa,List.range'_one,k0,eq_true g1,eq_true g2]
   ·have:zfj s=false:=by simp only [zfj,decide_eq_false (show ¬ s.length ≤ 8 by omega),Bool.false_and,Bool.and_false]
    rw [this]
    simp only [zab,simprocAttr,zaa,List.range'_one,k0,eq_true g1,g2]
  ·have:zfj s=false:=by simp only [zfj,decide_eq_false (show ¬ 1 ≤ s.length by omega),Bool.false_and]
   rw [this]
   simp only [zab,simprocAttr,zaa,List.range'_one,k0,g1]
open Go
def z7h:CCode:=match zxx.body with
 | .seq _ (.seq (.seq _ (.block _ (.loop _ c))) _)=>c
 | _=>.skip
def Zjp:CCode:=match z7h with
 | .seq _ (.seq (.block _ (.seq (.seq _ (.block _ (.loop _ c))) _)) _)=>c
 | _=>.skip
theorem Zme {l:List (List UInt8)}(hl:l.length ≤ 100000){i:Nat}(hi:i < l.length){Q:Ex→St→Prop}
  (hno:(∃ j,∃ h:j < l.length,j < i∧l[j]=l[i])→∀ tm hp,za1 tm 2 = .d (.b false)→Q .ret ⟨tm,hp⟩)
  (hyes:(∀ j (h:j < l.length),j < i→l[j] ≠ l[i])→∀ tm,za1 tm 0 = .d (.l 1 (l.map za2))→za1 tm 3 = .d (.i .i64 i)→Q (.exit 2) ⟨tm,[]⟩) :
  ∀ (m j:Nat),j + m=i→(∀ k (h:k < l.length),k < j→l[k] ≠ l[i]) →
  LX E Zjp ⟨[0,3,4],[],[],[],[],true⟩ 0 ⟨[(0,.d (.l 1 (l.map za2))),(3,.d (.i .i64 i)),(4,.d (.i .i64 j))],[]⟩ Q:=by
 intro m
 induction m with
 | zero =>
  intro j hj hk
  have hn:¬ ((j:Int) < (i:Int)):=by omega
  refine zah ?_
  simp only [zab,simprocAttr,zaa,List.range'_one,Zjp,z7h,zxx,hn]
  exact hyes (fun k h hki=>hk k h (by omega)) _ rfl rfl
 | succ m ih =>
  intro j hj hk
  have hy:(j:Int) < (i:Int):=by omega
  have lj:j < l.length:=by omega
  have j0:(0:Int) ≤ j:=by omega
  have i0:(0:Int) ≤ i:=by omega
  have w:IntKind.i64.wrap ((j:Int) + 1)=((j + 1:Nat):Int):=by rw [zda (by omega) (by omega)]; omega
  have gi:(l.map za2)[i]?=some [.s l[i]]:=by rw [List.getElem?_map,Qd hi]; rfl
  have gj:(l.map za2)[j]?=some [.s l[j]]:=by rw [List.getElem?_map,Qd lj]; rfl
  refine zah ?_
  by_cases e:l[i]=l[j]
  ·simp only [zab,simprocAttr,zaa,List.range'_one,Zjp,z7h,zxx,eq_true hy,gi,gj,eq_true i0,eq_true j0,eq_true e]
   refine ⟨by rfl,hno ⟨j,lj,by omega,e.symm⟩ _ _ ?_⟩
   simp only [zab,simprocAttr,zaa,List.range'_one]
  ·simp only [zab,simprocAttr,zaa,List.range'_one,Zjp,z7h,zxx,eq_true hy,gi,gj,eq_true i0,eq_true j0,e,w]
   refine ⟨by rfl,_,rfl,ih (j + 1) (by omega) (fun k h hkj=>?_)⟩
   by_cases ek:k=j
   ·subst ek; exact fun h'=>e h'.symm
   ·exact hk k h (by omega)
def ze6 (l:List (List UInt8)):Bool:=decide l.Nodup && l.all zfj
theorem Zd8 (e429:E 429=some (.code zre)){l:List (List UInt8)}(hl:l.length ≤ 100000)(hs:∀ s ∈ l,s.length ≤ 1000000){Q:Ex→St→Prop}
  (hno:ze6 l=false→∀ tm hp,za1 tm 2 = .d (.b false)→Q .ret ⟨tm,hp⟩) (hyes:ze6 l=true→∀ tm hp,Q (.exit 0) ⟨tm,hp⟩) :
  ∀ (m i:Nat),i + m=l.length→(∀ a b (ha:a < l.length) (hb:b < l.length),a < b→b < i→l[a] ≠ l[b])→(∀ a (ha:a < l.length),a < i→zfj l[a]=true) →
  LX E z7h ⟨[0,3],[],[],[],[],true⟩ 0 ⟨[(0,.d (.l 1 (l.map za2))),(3,.d (.i .i64 i))],[]⟩ Q:=by
 intro m
 induction m with
 | zero =>
  intro i hi h1 h2
  have hn:¬ ((i:Int) < (l.length:Int)):=by omega
  refine zah ?_
  simp only [zab,simprocAttr,zaa,List.range'_one,z7h,zxx,hn,Qf]
  refine hyes ?_ _ _
  have n1:l.Nodup:=List.pairwise_iff_getElem.2 (fun a b ha hb hab=>h1 a b ha hb hab (by omega))
  have n2:l.all zfj=true:=List.all_eq_true.2 (fun x hx=>by obtain ⟨a,ha,rfl⟩:=List.getElem_of_mem hx; exact h2 a ha (by omega))
  simp only [ze6,Ql n1,n2,Bool.and_self]
 | succ m ih =>
  intro i hi h1 h2
  have hy:(i:Int) < (l.length:Int):=by omega
  have li:i < l.length:=by omega
  have i0:(0:Int) ≤ i:=by omega
  have w:IntKind.i64.wrap ((i:Int) + 1)=((i + 1:Nat):Int):=by rw [zda (by omega) (by omega)]; omega
  have gi:(l.map za2)[i]?=some [.s l[i]]:=by rw [List.getElem?_map,Qd li]; rfl
  have c1:=z49 e429 (hs _ (List.getElem_mem li))
  have st:=Zme (E:=E) hl li
   (Q:=zcw 2 (zrx E (.seq (.region false [⟨some 25,.mv (.t 0),none,0⟩,⟨some 26,.mv (.t 3),none,0⟩,⟨some 27,.ia 1 (.t 25) (.t 26),none,0⟩,⟨some 28,.ld false 1 (.t 27),none,0⟩,⟨some 29,.call 429 [.t 28] 0 true,none,0⟩,⟨some 30,.un .not (.t 29),none,0⟩]) (.cond (.t 30) (.seq (.region false [⟨some 2,.mv (.k (.d (.b false))),none,0⟩]) .ret) .skip))
    (zcw 1 (zrx E (.region false [⟨some 9,.mv (.t 3),none,0⟩,⟨some 10,.bin .add (.t 9) (.k (.d (.i .i64 1))),none,0⟩,⟨some 3,.mv (.t 10),none,0⟩]) (zaa E z7h ⟨[0,3],[],[],[],[],true⟩ 0 Q)))))
   (fun ⟨j,hj,hji,e⟩ tm hp k2=>?_) (fun hd tm k0 k3=>?_) i 0 (by omega) (fun k h hk=>by omega)
  ·refine zah ?_
   simp only [zab,simprocAttr,zaa,List.range'_one,z7h,zxx,eq_true hy,Qf]
   exact st
  ·have n1:¬ l.Nodup:=fun hnd=>(List.pairwise_iff_getElem.1 hnd) j i hj li hji e
   exact hno (by simp only [ze6,decide_eq_false n1,Bool.false_and]) tm hp k2
  ·cases hx:zfj l[i]
   ·rw [hx] at c1
    have n2:l.all zfj=false:=by
     rw [List.all_eq_false]
     exact ⟨l[i],List.getElem_mem li,by simp [hx]⟩
    simp only [zab,simprocAttr,zaa,List.range'_one,k0,k3,gi,eq_true i0,c1]
    refine hno (by simp only [ze6,n2,Bool.and_false]) _ _ ?_
    simp only [zab,simprocAttr,zaa,List.range'_one]
   ·rw [hx] at c1
    simp only [zab,simprocAttr,zaa,List.range'_one,k0,k3,gi,eq_true i0,c1,w]
    refine ⟨_,rfl,ih (i + 1) (by omega) (fun a b ha hb hab hbi=>?_) (fun a ha hai=>?_)⟩
    ·by_cases eb:b=i
     ·subst eb; exact hd a ha hab
     ·exact h1 a b ha hb hab (by omega)
    ·by_cases ea:a=i
     ·subst ea; exact hx
     ·exact h2 a ha (by omega)
theorem zm5 (e412:E 412=some (.code zxx))(e429:E 429=some (.code zre)){l:List (List UInt8)}(hl:l.length ≤ 100000)(hs:∀ s ∈ l,s.length ≤ 1000000):lcall E 412 [.d (.l 1 (l.map za2))] []=some (.d (.b (ze6 l)),[]):=by
 refine zaq e412 ?_
 simp only [zab,simprocAttr,zaa,List.range'_one,zxx]
 refine Zd8 e429 hl hs (fun h tm hp h2=>?_) (fun h tm hp=>?_) l.length 0 (by omega) (fun a b ha hb hab hbi=>by omega) (fun a ha hai=>by omega)
 ·rw [h]
  simp only [zab,simprocAttr,zaa,List.range'_one,h2]
 ·rw [h]
  simp only [zab,simprocAttr,zaa,List.range'_one]
open Go
def Zmf:CCode:=match zh5.body with
 | .seq _ (.seq _ (.seq _ (.seq (.seq _ (.block _ (.loop _ c))) _)))=>c
 | _=>.skip
def Zd9:CCode:=match zh5.body with
 | .seq _ (.seq _ (.seq _ (.seq _ (.seq (.seq _ (.block _ (.loop _ c))) _))))=>c
 | _=>.skip
def zv6:CCode:=match zh5.body with
 | .seq _ (.seq _ (.seq _ (.seq _ (.seq _ (.seq (.seq _ (.block _ (.loop _ c))) _)))))=>c
 | _=>.skip
def z7i:CCode:=match zv6 with
 | .seq _ (.seq (.block _ (.seq _ (.seq _ (.seq _ (.block _ (.loop _ c)))))) _)=>c
 | _=>.skip
abbrev Gram.box (g:Gram):Option Obj:=some (.box [.d (.l 3 (g.toks.map GTok.row)),.d (.l 3 (g.nts.map GNt.row)),.d (.l 3 (g.prods.map GProd.row))])
abbrev GProd.box (p:GProd):Option Obj:=some (.box [.d (.i .i64 p.left),.d (.l 2 (p.right.map GSym.row)),.d (.l 10 (p.rules.map GRule.row))])
theorem z5a {g:Gram}(hl:g.toks.length ≤ 1000){Q:Ex→St→Prop}:∀ (m i:Nat) (out:List (List UInt8)),i + m=g.toks.length→out.length ≤ i →
  (∀ tm,za1 tm 1 = .ptr 0 0→za1 tm 3 = .own 1 0 1 ((out++(g.toks.drop i).map GTok.name).map za2)→Q (.exit 0) ⟨tm,[g.box,some (.tok 0 1)]⟩) →
  LX E Zmf ⟨[1,3,4],[3],[],[],[],true⟩ 2 ⟨[(1,.ptr 0 0),(3,.own 1 0 1 (out.map za2)),(4,.d (.i .i64 i))],[g.box,some (.tok 0 1)]⟩ Q:=by
 intro m
 induction m with
 | zero =>
  intro i out hi ho hQ
  have hn:¬ ((i:Int) < g.toks.length):=by omega
  rw [List.drop_eq_nil_of_le (by omega)] at hQ
  simp only [Qc,List.append_nil] at hQ
  refine zah ?_
  simp only [zab,simprocAttr,zaa,List.range'_one,Zmf,zh5,hn,Qf]
  exact hQ _ rfl rfl
 | succ m ih =>
  intro i out hi ho hQ
  have hy:(i:Int) < g.toks.length:=by omega
  have la:i < g.toks.length:=by omega
  have h0:(0:Int) ≤ i:=by omega
  have ga:(g.toks.map GTok.row)[i]?=some [.s g.toks[i].name,.s g.toks[i].rex,.b g.toks[i].skip]:=by rw [List.getElem?_map,Qd la]; rfl
  have w:IntKind.i64.wrap ((i:Int) + 1)=((i + 1:Nat):Int):=by rw [zda (by omega) (by omega)]; omega
  have r2:za4 (out.length + 1) 16=true:=by unfold za4; exact Ql (by omega)
  rw [List.drop_eq_getElem_cons la] at hQ
  simp only [Qb] at hQ
  generalize g.toks[i]=t at *
  refine zah ?_
  simp only [zab,simprocAttr,zaa,List.range'_one,Zmf,zh5,eq_true hy,eq_true h0,ga,ofDs,Qb,Qc,Qf,r2,zfq,w]
  exact ⟨_,rfl,ih (i + 1) (out++[t.name]) (by omega) (by simp; omega) (by simpa using hQ)⟩
def zls (n:GNt):Bool:=decide (((n.inh++n.syn).length:Int) > 4) || !ze6 (n.inh++n.syn)
theorem z5b {g:Gram}{p:GProd}{names:List (List UInt8)}{i:Nat}(ht:g.toks.length ≤ 1000)(hr:p.right.length ≤ 1000){Q:Ex→St→Prop}:∀ (m j:Nat),j + m=p.right.length →
  (((p.right.drop j).any fun s=>!zja g s)=true→∀ tm hp,za1 tm 2 = .d (.b false)→Q .ret ⟨tm,hp⟩) →
  (((p.right.drop j).any fun s=>!zja g s)=false→∀ tm,za1 tm 1 = .ptr 0 0→za1 tm 3 = .own 1 0 1 (names.map za2)→za1 tm 7 = .d (.i .i64 i)→Q (.exit 6) ⟨tm,[g.box,some (.tok 0 1),p.box]⟩) →
  LX E z7i ⟨[1,3,7,8,9],[],[],[],[],true⟩ 3 ⟨[(1,.ptr 0 0),(3,.own 1 0 1 (names.map za2)),(7,.d (.i .i64 i)),(8,.ptr 2 0),(9,.d (.i .i64 j))],[g.box,some (.tok 0 1),p.box]⟩ Q:=by
 intro m
 induction m with
 | zero =>
  intro j hj hno hyes
  have hn:¬ ((j:Int) < p.right.length):=by omega
  rw [List.drop_eq_nil_of_le (by omega)] at hyes
  simp only [List.any_nil,forall_const] at hyes
  refine zah ?_
  simp only [zab,simprocAttr,zaa,List.range'_one,z7i,zv6,zh5,hn,Qf]
  exact hyes _ rfl rfl rfl
 | succ m ih =>
  intro j hj hno hyes
  have hy:(j:Int) < p.right.length:=by omega
  have la:j < p.right.length:=by omega
  have h0:(0:Int) ≤ j:=by omega
  have ga:(p.right.map GSym.row)[j]?=some [.b p.right[j].tok,.i .i64 p.right[j].at_]:=by rw [List.getElem?_map,Qd la]; rfl
  have w:IntKind.i64.wrap ((j:Int) + 1)=((j + 1:Nat):Int):=by rw [zda (by omega) (by omega)]; omega
  rw [List.drop_eq_getElem_cons la] at hno hyes
  simp only [List.any_cons,Bool.or_eq_true,Bool.or_eq_false_iff,Bool.not_eq_true',Bool.not_eq_false'] at hno hyes
  generalize p.right[j]=s at *
  obtain ⟨st,sa⟩:=s
  have good:zja g ⟨st,sa⟩=true→∀ {tm:List (Nat × V)} {hp:List (Option Obj)},True:=fun _ _ _=>trivial
  refine zah ?_
  by_cases ha:sa < 0
  ·have ha':¬ 0 ≤ sa:=by omega
   have hb:zja g ⟨st,sa⟩=false:=by cases st <;> simp [zja,ha']
   simp only [zab,simprocAttr,zaa,List.range'_one,z7i,zv6,zh5,eq_true hy,eq_true h0,ga,ofDs,Qb,Qc,Qf,eq_true ha]
   refine hno (.inl hb) _ _ ?_
   simp only [zab,simprocAttr,zaa,List.range'_one]
  ·have ha':0 ≤ sa:=by omega
   cases st
   ·by_cases hm:sa ≥ (g.nts.length:Int)
    ·have hm':¬ sa < (g.nts.length:Int):=by omega
     have hb:zja g ⟨false,sa⟩=false:=by simp [zja,ha',hm']
     simp only [zab,simprocAttr,zaa,List.range'_one,z7i,zv6,zh5,eq_true hy,eq_true h0,ga,ofDs,Qb,Qc,Qf,ha,eq_true hm]
     refine hno (.inl hb) _ _ ?_
     simp only [zab,simprocAttr,zaa,List.range'_one]
    ·have hm':sa < (g.nts.length:Int):=by omega
     have hb:zja g ⟨false,sa⟩=true:=by simp [zja,ha',hm']
     simp only [zab,simprocAttr,zaa,List.range'_one,z7i,zv6,zh5,eq_true hy,eq_true h0,ga,ofDs,Qb,Qc,Qf,ha,hm,w]
     exact ⟨_,rfl,ih (j + 1) (by omega) (fun h=>hno (.inr h)) (fun h=>hyes ⟨hb,h⟩)⟩
   ·by_cases hm:sa ≥ (g.toks.length:Int)
    ·have hm':¬ sa < (g.toks.length:Int):=by omega
     have hb:zja g ⟨true,sa⟩=false:=by simp [zja,ha',hm']
     simp only [zab,simprocAttr,zaa,List.range'_one,z7i,zv6,zh5,eq_true hy,eq_true h0,ga,ofDs,Qb,Qc,Qf,ha,eq_true hm]
     refine hno (.inl hb) _ _ ?_
     simp only [zab,simprocAttr,zaa,List.range'_one]
    ·have hm':sa < (g.toks.length:Int):=by omega
     obtain ⟨t,gt,_⟩:=zkd (l:=g.toks) ha' hm'
     have gt':(g.toks.map GTok.row)[sa.toNat]?=some [.s t.name,.s t.rex,.b t.skip]:=by rw [List.getElem?_map,gt]; rfl
     cases hs:t.skip
     ·rw [hs] at gt'
      have hb:zja g ⟨true,sa⟩=true:=by simp only [zja,gt,hs,Ql ha',Ql hm',if_true,Bool.and_self,Bool.not_true,Bool.not_false,Bool.and_false]
      simp only [zab,simprocAttr,zaa,List.range'_one,z7i,zv6,zh5,eq_true hy,eq_true h0,ga,gt',ofDs,Qb,Qc,Qf,ha,eq_true ha',hm,w]
      exact ⟨_,rfl,ih (j + 1) (by omega) (fun h=>hno (.inr h)) (fun h=>hyes ⟨hb,h⟩)⟩
     ·rw [hs] at gt'
      have hb:zja g ⟨true,sa⟩=false:=by simp only [zja,gt,hs,Ql ha',Ql hm',if_true,Bool.and_self,Bool.not_true,Bool.not_false,Bool.and_false]
      simp only [zab,simprocAttr,zaa,List.range'_one,z7i,zv6,zh5,eq_true hy,eq_true h0,ga,gt',ofDs,Qb,Qc,Qf,ha,eq_true ha',hm,w]
      refine hno (.inl hb) _ _ ?_
      simp only [zab,simprocAttr,zaa,List.range'_one]
open Go
theorem z5c (e412:E 412=some (.code zxx))(e429:E 429=some (.code zre)){g:Gram}(hl:g.nts.length ≤ 1000)(hn:∀ n ∈ g.nts,n.inh.length ≤ 1000∧n.syn.length ≤ 1000)(hs:∀ n ∈ g.nts,∀ s ∈ n.inh++n.syn,s.length ≤ 1000000){Q:Ex→St→Prop}:∀ (m i:Nat) (out:List (List UInt8)),i + m=g.nts.length→out.length ≤ i + 1000 →
  ((g.nts.drop i).any zls=true→∀ tm hp,za1 tm 2 = .d (.b false)→Q .ret ⟨tm,hp⟩) →
  ((g.nts.drop i).any zls=false→∀ tm,za1 tm 1 = .ptr 0 0→za1 tm 3 = .own 1 0 1 ((out++(g.nts.drop i).map GNt.name).map za2)→Q (.exit 2) ⟨tm,[g.box,some (.tok 0 1)]⟩) →
  LX E Zd9 ⟨[1,3,5],[3],[],[],[],true⟩ 2 ⟨[(1,.ptr 0 0),(3,.own 1 0 1 (out.map za2)),(5,.d (.i .i64 i))],[g.box,some (.tok 0 1)]⟩ Q:=by
 intro m
 induction m with
 | zero =>
  intro i out hi ho hQ1 hQ
  have hn:¬ ((i:Int) < g.nts.length):=by omega
  rw [List.drop_eq_nil_of_le (by omega)] at hQ
  simp only [Qc,List.append_nil,List.any_nil,forall_const] at hQ
  refine zah ?_
  simp only [zab,simprocAttr,zaa,List.range'_one,Zd9,zh5,hn,Qf]
  exact hQ _ rfl rfl
 | succ m ih =>
  intro i out hi ho hQ1 hQ
  have hy:(i:Int) < g.nts.length:=by omega
  have la:i < g.nts.length:=by omega
  have h0:(0:Int) ≤ i:=by omega
  have ga:(g.nts.map GNt.row)[i]?=some [.s g.nts[i].name,.l 1 (g.nts[i].inh.map za2),.l 1 (g.nts[i].syn.map za2)]:=by rw [List.getElem?_map,Qd la]; rfl
  have w:IntKind.i64.wrap ((i:Int) + 1)=((i + 1:Nat):Int):=by rw [zda (by omega) (by omega)]; omega
  have r2:za4 (out.length + 1) 16=true:=by unfold za4; exact Ql (by omega)
  have hb:=hn _ (List.getElem_mem la)
  have hss:=hs _ (List.getElem_mem la)
  rw [List.drop_eq_getElem_cons la] at hQ hQ1
  simp only [Qb,List.any_cons,Bool.or_eq_true,Bool.or_eq_false_iff] at hQ hQ1
  generalize g.nts[i]=t at *
  have r3:za4 t.inh.length 16=true:=by unfold za4; exact Ql (by omega)
  have r4:za4 (t.inh.length + t.syn.length) 16=true:=by unfold za4; exact Ql (by omega)
  have e1:t.inh.map za2++t.syn.map za2=(t.inh++t.syn).map za2:=by simp
  have c3:=zm5 e412 e429 (l:=t.inh++t.syn) (by simp; omega) hss
  refine zah ?_
  by_cases g4:((t.inh++t.syn).length:Int) > 4
  ·have hbad:zls t=true:=by simp only [zls,Ql g4,Bool.true_or]
   simp only [zab,simprocAttr,zaa,List.range'_one,Zd9,zh5,eq_true hy,eq_true h0,ga,ofDs,Qb,Qc,Qf,r2,r3,r4,zfq,w,e1,eq_true g4,List.length_cons,List.length_nil,List.nil_append,Nat.zero_add]
   refine ⟨by rfl,hQ1 (.inl hbad) _ _ ?_⟩
   simp only [zab,simprocAttr,zaa,List.range'_one]
  ·cases hnm:ze6 (t.inh++t.syn)
   ·have hbad:zls t=true:=by simp only [zls,hnm,Bool.not_false,Bool.or_true]
    rw [hnm] at c3
    simp only [zab,simprocAttr,zaa,List.range'_one,Zd9,zh5,eq_true hy,eq_true h0,ga,ofDs,Qb,Qc,Qf,r2,r3,r4,zfq,w,e1,c3,g4,List.length_cons,List.length_nil,List.nil_append,Nat.zero_add]
    refine ⟨by rfl,hQ1 (.inl hbad) _ _ ?_⟩
    simp only [zab,simprocAttr,zaa,List.range'_one]
   ·have hgood:zls t=false:=by simp only [zls,hnm,decide_eq_false g4,Bool.not_true,Bool.or_self]
    rw [hnm] at c3
    simp only [zab,simprocAttr,zaa,List.range'_one,Zd9,zh5,eq_true hy,eq_true h0,ga,ofDs,Qb,Qc,Qf,r2,r3,r4,zfq,w,e1,c3,g4,List.length_cons,List.length_nil,List.nil_append,Nat.zero_add]
    exact ⟨by rfl,_,rfl,ih (i + 1) (out++[t.name]) (by omega) (by simp; omega) (fun h=>hQ1 (.inr h)) (fun h=>by simpa using hQ ⟨hgood,h⟩)⟩
open Go
theorem z5d {g:Gram}{names:List (List UInt8)}(hg:g.Ok){Q:Ex→St→Prop}:∀ (m i:Nat),i + m=g.prods.length →
  (((g.prods.drop i).any fun p=>!zd5 g p)=true→∀ tm hp,za1 tm 2 = .d (.b false)→Q .ret ⟨tm,hp⟩) →
  (((g.prods.drop i).any fun p=>!zd5 g p)=false→∀ tm,za1 tm 3 = .own 1 0 1 (names.map za2)→Q (.exit 4) ⟨tm,[g.box,some (.tok 0 1)]⟩) →
  LX E zv6 ⟨[1,3,7],[],[],[],[],true⟩ 2 ⟨[(1,.ptr 0 0),(3,.own 1 0 1 (names.map za2)),(7,.d (.i .i64 i))],[g.box,some (.tok 0 1)]⟩ Q:=by
 have hl:=hg.prods
 intro m
 induction m with
 | zero =>
  intro i hi hno hyes
  have hn:¬ ((i:Int) < g.prods.length):=by omega
  rw [List.drop_eq_nil_of_le (by omega)] at hyes
  simp only [List.any_nil,forall_const] at hyes
  refine zah ?_
  simp only [zab,simprocAttr,zaa,List.range'_one,zv6,zh5,hn,Qf]
  exact hyes _ rfl
 | succ m ih =>
  intro i hi hno hyes
  have hy:(i:Int) < g.prods.length:=by omega
  have la:i < g.prods.length:=by omega
  have h0:(0:Int) ≤ i:=by omega
  have ga:(g.prods.map GProd.row)[i]?=some [.i .i64 g.prods[i].left,.l 2 (g.prods[i].right.map GSym.row),.l 10 (g.prods[i].rules.map GRule.row)]:=by rw [List.getElem?_map,Qd la]; rfl
  have w:IntKind.i64.wrap ((i:Int) + 1)=((i + 1:Nat):Int):=by rw [zda (by omega) (by omega)]; omega
  have hp:=hg.prod _ (List.getElem_mem la)
  have hr:=hp.right
  rw [List.drop_eq_getElem_cons la] at hno hyes
  simp only [List.any_cons,Bool.or_eq_true,Bool.or_eq_false_iff,Bool.not_eq_true',Bool.not_eq_false'] at hno hyes
  generalize g.prods[i]=p at *
  refine zah ?_
  by_cases a0:p.left < 0
  ·have a0':¬ 0 ≤ p.left:=by omega
   have hb:zd5 g p=false:=by simp only [zd5,decide_eq_false a0',Bool.false_and]
   simp only [zab,simprocAttr,zaa,List.range'_one,zv6,zh5,eq_true hy,eq_true h0,ga,ofDs,Qb,Qc,Qf,eq_true a0]
   refine hno (.inl hb) _ _ ?_
   simp only [zab,simprocAttr,zaa,List.range'_one]
  ·have a0':0 ≤ p.left:=by omega
   by_cases a1:p.left ≥ (g.nts.length:Int)
   ·have a1':¬ p.left < (g.nts.length:Int):=by omega
    have hb:zd5 g p=false:=by simp only [zd5,decide_eq_false a1',Bool.false_and,Bool.and_false]
    simp only [zab,simprocAttr,zaa,List.range'_one,zv6,zh5,eq_true hy,eq_true h0,ga,ofDs,Qb,Qc,Qf,a0,eq_true a1]
    refine hno (.inl hb) _ _ ?_
    simp only [zab,simprocAttr,zaa,List.range'_one]
   ·have a1':p.left < (g.nts.length:Int):=by omega
    by_cases a2:(p.right.length:Int) > 5
    ·have a2':¬ (p.right.length:Int) ≤ 5:=by omega
     have hb:zd5 g p=false:=by simp only [zd5,decide_eq_false a2',Bool.false_and,Bool.and_false]
     simp only [zab,simprocAttr,zaa,List.range'_one,zv6,zh5,eq_true hy,eq_true h0,ga,ofDs,Qb,Qc,Qf,a0,a1,eq_true a2]
     refine hno (.inl hb) _ _ ?_
     simp only [zab,simprocAttr,zaa,List.range'_one]
    ·have a2':(p.right.length:Int) ≤ 5:=by omega
     have he:zd5 g p = !(p.right.any fun s=>!zja g s):=by simp only [zd5,Ql a0',Ql a1',Ql a2',Bool.true_and]
     rw [he] at hno hyes
     simp only [zab,simprocAttr,zaa,List.range'_one,zv6,zh5,eq_true hy,eq_true h0,ga,ofDs,Qb,Qc,Qf,a0,a1,a2]
     refine z5b (p:=p) hg.toks hr p.right.length 0 (by omega) (fun hb tm hp h2=>?_) (fun hb tm h1 h3 h7=>?_)
     ·rw [List.drop_zero] at hb
      simp only [zab,simprocAttr,zaa,List.range'_one,h2]
      refine hno (.inl (by rw [hb]; rfl)) _ _ ?_
      simp only [zab,simprocAttr,zaa,List.range'_one,h2]
     ·rw [List.drop_zero] at hb
      simp only [zab,simprocAttr,zaa,List.range'_one,h1,h3,h7,w]
      exact ⟨_,rfl,ih (i + 1) (by omega) (fun h=>hno (.inr h)) (fun h=>hyes ⟨by rw [hb]; rfl,h⟩)⟩
open Go
def dmF (g:Gram):Bool:=(decide (1 ≤ g.toks.length) && decide ((g.toks.length:Int) ≤ 8)) && ((decide (1 ≤ g.nts.length) && decide ((g.nts.length:Int) ≤ 8)) && ((decide (1 ≤ g.prods.length) && decide ((g.prods.length:Int) ≤ 16)) &&
 (!g.nts.any zls && (ze6 (g.toks.map GTok.name++g.nts.map GNt.name) && !g.prods.any fun p=>!zd5 g p))))
structure Gram.Short (g:Gram):Prop where
 tok:∀ t ∈ g.toks,t.name.length ≤ 1000000
 nt:∀ n ∈ g.nts,n.name.length ≤ 1000000
 att:∀ n ∈ g.nts,∀ s ∈ n.inh++n.syn,s.length ≤ 1000000
theorem z5e (e393:E 393=some (.code zh5))(e412:E 412=some (.code zxx))(e429:E 429=some (.code zre)){g:Gram}(hg:g.Ok)(hs:g.Short):lcall E 393 [g.arg] []=some (.d (.b (dmF g)),[]):=by
 have ht:=hg.toks
 have hnt:=hg.nts
 have hpr:=hg.prods
 refine zaq e393 ?_
 unfold dmF
 by_cases a1:(g.toks.length:Int) < 1
 ·have a1':¬ 1 ≤ g.toks.length:=by omega
  simp only [zab,simprocAttr,zaa,List.range'_one,zh5,Qf,eq_true a1,a1',decide_false]
 have a1':1 ≤ g.toks.length:=by omega
 by_cases a2:(g.toks.length:Int) > 8
 ·have a2':¬ (g.toks.length:Int) ≤ 8:=by omega
  simp only [zab,simprocAttr,zaa,List.range'_one,zh5,Qf,a1,eq_true a2,a2',eq_true a1',decide_false,decide_true]
 have a2':(g.toks.length:Int) ≤ 8:=by omega
 by_cases a3:(g.nts.length:Int) < 1
 ·have a3':¬ 1 ≤ g.nts.length:=by omega
  simp only [zab,simprocAttr,zaa,List.range'_one,zh5,Qf,a1,a2,eq_true a3,a3',eq_true a1',eq_true a2',decide_false,decide_true]
 have a3':1 ≤ g.nts.length:=by omega
 by_cases a4:(g.nts.length:Int) > 8
 ·have a4':¬ (g.nts.length:Int) ≤ 8:=by omega
  simp only [zab,simprocAttr,zaa,List.range'_one,zh5,Qf,a1,a2,a3,eq_true a4,a4',eq_true a1',eq_true a2',eq_true a3',decide_false,decide_true]
 have a4':(g.nts.length:Int) ≤ 8:=by omega
 by_cases a5:(g.prods.length:Int) < 1
 ·have a5':¬ 1 ≤ g.prods.length:=by omega
  simp only [zab,simprocAttr,zaa,List.range'_one,zh5,Qf,a1,a2,a3,a4,eq_true a5,a5',eq_true a1',eq_true a2',eq_true a3',eq_true a4',decide_false,decide_true]
 have a5':1 ≤ g.prods.length:=by omega
 by_cases a6:(g.prods.length:Int) > 16
 ·have a6':¬ (g.prods.length:Int) ≤ 16:=by omega
  simp only [zab,simprocAttr,zaa,List.range'_one,zh5,Qf,a1,a2,a3,a4,a5,eq_true a6,a6',eq_true a1',eq_true a2',eq_true a3',eq_true a4',eq_true a5',decide_false,decide_true]
 have a6':(g.prods.length:Int) ≤ 16:=by omega
 simp only [zab,simprocAttr,zaa,List.range'_one,zh5,Qf,a1,a2,a3,a4,a5,a6]
 have r0:([]:List (List D))=([]:List (List UInt8)).map za2:=rfl
 rw [r0]
 refine z5a ht g.toks.length 0 [] (by omega) (by simp) (fun tm h1 h3=>?_)
 simp only [zab,simprocAttr,zaa,List.range'_one,h1,h3,List.drop_zero,List.nil_append,Qf]
 refine z5c e412 e429 hnt hg.nt hs.att g.nts.length 0 (g.toks.map GTok.name) (by omega) (by simp; omega) (fun hb tm hp h2=>?_) (fun hb tm h1 h3=>?_)
 ·rw [List.drop_zero] at hb
  simp only [zab,simprocAttr,zaa,List.range'_one,h2,hb]
  try rfl
 rw [List.drop_zero] at hb h3
 simp only [zab,simprocAttr,zaa,List.range'_one,h1,h3]
 refine z5d (names:=g.toks.map GTok.name++g.nts.map GNt.name) hg g.prods.length 0 (by omega) (fun hc tm hp h2=>?_) (fun hc tm h3=>?_)
 ·rw [List.drop_zero] at hc
  simp only [zab,simprocAttr,zaa,List.range'_one,h2]
  simp [hc]
 rw [List.drop_zero] at hc
 have c4:=zm5 e412 e429 (l:=g.toks.map GTok.name++g.nts.map GNt.name) (by simp; omega) (fun s hs'=>by
  rcases List.mem_append.1 hs' with h | h
  ·obtain ⟨t,h',rfl⟩:=List.mem_map.1 h; exact hs.tok t h'
  ·obtain ⟨t,h',rfl⟩:=List.mem_map.1 h; exact hs.nt t h')
 simp only [zab,simprocAttr,zaa,List.range'_one,h3,c4]
 simp [hb,hc,a1',a2',a3',a4',a5',a6']
theorem zm6:∀ (l seen:List (List UInt8)),zee seen l=true ↔ l.Nodup∧∀ x ∈ l,x ∉ seen
 | [],seen=>by simp [zee]
 | x :: r,seen=>by
  simp only [zee]
  by_cases h:x ∈ seen
  ·simp [h]
  ·rw [if_neg h,zm6 r (seen++[x]),List.nodup_cons]
   constructor
   ·rintro ⟨h1,h2⟩
    refine ⟨⟨fun hx=>(h2 x hx) (by simp),h1⟩,fun y hy=>?_⟩
    rcases List.mem_cons.1 hy with rfl | hy
    ·exact h
    ·exact fun hs=>h2 y hy (by simp [hs])
   ·rintro ⟨⟨h1,h2⟩,h3⟩
    refine ⟨h2,fun y hy hs=>?_⟩
    rcases List.mem_append.1 hs with hs | hs
    ·exact h3 y (List.mem_cons_of_mem _ hy) hs
    ·simp only [List.mem_singleton] at hs; subst hs; exact h1 hy
theorem zpd (l:List (List UInt8)):ze6 l=zgq l:=by
 have h1:decide l.Nodup=zee [] l:=by
  rw [Bool.eq_iff_iff,zm6]
  simp
 have h2:∀ l:List (List UInt8),l.all zfj = !(l.any fun s=>!zfj s):=by
  intro l
  induction l with
  | nil=>rfl
  | cons x l ih=>simp only [List.all_cons,List.any_cons,ih,Bool.not_or,Bool.not_not]
 unfold ze6 zgq
 rw [h1,h2]
theorem z5f (n:GNt):zls n=zhz n:=by unfold zls zhz; rw [zpd]
theorem Zea (g:Gram):dmF g=zh0 g:=by
 unfold dmF zh0
 rw [zpd,show g.nts.any zls=g.nts.any zhz from congrArg (List.any g.nts) (funext z5f)]
open Go
theorem zcy (l:List GVal):(zbu l).length=l.length:=by rw [zb7,Qf]
theorem z5g (e278:E 278=some (.code zn8)){op:Int}(h:za3 op ≠ -2):lcall E 278 [.d (.i .i64 op)] []=some (.tup [.d (.i .i64 (za3 op)),.d (.b true)],[]):=by
 refine zaq e278 ?_
 by_cases h0:op=0
 ·subst h0; simp only [zab,simprocAttr,zaa,List.range'_one,zn8,za3]
 by_cases h1:op=1
 ·subst h1; simp only [zab,simprocAttr,zaa,List.range'_one,zn8,za3]
 by_cases h2:op=2
 ·subst h2; simp only [zab,simprocAttr,zaa,List.range'_one,zn8,za3]
 by_cases h3:op=3
 ·subst h3; simp only [zab,simprocAttr,zaa,List.range'_one,zn8,za3]
 by_cases h21:op=21
 ·subst h21; simp only [zab,simprocAttr,zaa,List.range'_one,zn8,za3]
 by_cases h22:op=22
 ·subst h22; simp only [zab,simprocAttr,zaa,List.range'_one,zn8,za3]
 by_cases h11:op=11
 ·subst h11; simp only [zab,simprocAttr,zaa,List.range'_one,zn8,za3]
 by_cases h15:op=15
 ·subst h15; simp only [zab,simprocAttr,zaa,List.range'_one,zn8,za3]
 by_cases h12:op=12
 ·subst h12; simp only [zab,simprocAttr,zaa,List.range'_one,zn8,za3]
 by_cases h16:op=16
 ·subst h16; simp only [zab,simprocAttr,zaa,List.range'_one,zn8,za3]
 by_cases h14:op=14
 ·subst h14; simp only [zab,simprocAttr,zaa,List.range'_one,zn8,za3]
 have h5:op > 3∧op < 21:=by
  apply Classical.byContradiction
  intro hn
  apply h
  unfold za3
  simp only [h0,h1,h2,h3,h21,h22,h11,h15,h12,h16,h14,if_false,if_neg hn]
 have k1:(0:Int) < op:=by omega
 have k2:op ≤ 22:=by omega
 have ht:za3 op=2:=by
  unfold za3
  simp only [h0,h1,h2,h3,h21,h22,h11,h15,h12,h16,h14,if_false,if_pos h5]
 rw [ht]
 simp only [zab,simprocAttr,zaa,List.range'_one,zn8,h0,h1,h2,h3,h21,h22,h11,h15,h12,h16,h14,eq_true k1,eq_true k2]
theorem z08 (e278:E 278=some (.code zn8)){op:Int}(h:za3 op = -2):∃ n:Int,lcall E 278 [.d (.i .i64 op)] []=some (.tup [.d (.i .i64 n),.d (.b false)],[]):=by
 have nn:∀ k:Int,za3 k ≠ -2→op ≠ k:=fun k hk e=>hk (e ▸ h)
 have h0:=nn 0 (by decide)
 have h1:=nn 1 (by decide)
 have h2:=nn 2 (by decide)
 have h3:=nn 3 (by decide)
 have h21:=nn 21 (by decide)
 have h22:=nn 22 (by decide)
 have h11:=nn 11 (by decide)
 have h15:=nn 15 (by decide)
 have h12:=nn 12 (by decide)
 have h16:=nn 16 (by decide)
 have h14:=nn 14 (by decide)
 have h5:¬ (op > 3∧op < 21):=fun hp=>by
  unfold za3 at h
  simp only [h0,h1,h2,h3,h21,h22,h11,h15,h12,h16,h14,if_false,if_pos hp] at h
  omega
 refine ⟨2,zaq e278 ?_⟩
 by_cases k1:(0:Int) < op
 ·have k2:¬ op ≤ 22:=by omega
  simp only [zab,simprocAttr,zaa,List.range'_one,zn8,h0,h1,h2,h3,h21,h22,h11,h15,h12,h16,h14,eq_true k1,k2]
 ·simp only [zab,simprocAttr,zaa,List.range'_one,zn8,h0,h1,h2,h3,h21,h22,h11,h15,h12,h16,h14,k1]
def mT1:List CO:=match zen.body with
 | .seq _ (.seq _ (.seq _ (.seq _ (.seq (.region _ l) _))))=>l
 | _=>[]
def mT2:CCode:=match zen.body with
 | .seq _ (.seq _ (.seq _ (.seq _ (.seq _ (.seq c _)))))=>c
 | _=>.skip
def mT3:List CO:=match zen.body with
 | .seq _ (.seq _ (.seq _ (.seq _ (.seq _ (.seq _ (.seq (.region _ l) _))))))=>l
 | _=>[]
def mT4:List CO:=match zen.body with
 | .seq _ (.seq _ (.seq _ (.seq _ (.seq _ (.seq _ (.seq _ (.seq (.region _ l) _)))))))=>l
 | _=>[]
theorem m1 {e:Exp}{R:CCode}{Q:Ex→St→Prop}(h:∀ tm,za1 tm 2 = .ptr 0 0→za1 tm 8 = .d (.b (zfy e.v))→WX E R ⟨tm,[bxE e]⟩ Q){tm:List (Nat × V)}(t2:za1 tm 2 = .ptr 0 0):WX E (.seq (.region false mT1) R) ⟨tm,[bxE e]⟩ (Q):=by
 by_cases k1:e.v.kind=0
 ·by_cases k2:e.v.i=0
  ·by_cases k3:e.v.s=[]
   ·by_cases k4:(e.v.l.length:Int)=0
    ·have hz:zfy e.v=true:=by unfold zfy; rw [Ql k1,Ql k2,Ql k3,Ql k4]; rfl
     simp only [zab,simprocAttr,zaa,List.range'_one,mT1,zen,t2,eq_true k1,eq_true k2,eq_true k3,eq_true k4,zcy]
     exact h _ t2 (by rw [hz]; rfl)
    ·have hz:zfy e.v=false:=by unfold zfy; rw [Ql k1,Ql k2,Ql k3,decide_eq_false k4]; rfl
     simp only [zab,simprocAttr,zaa,List.range'_one,mT1,zen,t2,eq_true k1,eq_true k2,eq_true k3,k4,zcy]
     exact h _ t2 (by rw [hz]; rfl)
   ·have hz:zfy e.v=false:=by unfold zfy; rw [Ql k1,Ql k2,decide_eq_false k3]; rfl
    simp only [zab,simprocAttr,zaa,List.range'_one,mT1,zen,t2,eq_true k1,eq_true k2,k3,zcy]
    exact h _ t2 (by rw [hz]; rfl)
  ·have hz:zfy e.v=false:=by unfold zfy; rw [Ql k1,decide_eq_false k2]; rfl
   simp only [zab,simprocAttr,zaa,List.range'_one,mT1,zen,t2,eq_true k1,k2,zcy]
   exact h _ t2 (by rw [hz]; rfl)
 ·have hz:zfy e.v=false:=by unfold zfy; rw [decide_eq_false k1]; rfl
  simp only [zab,simprocAttr,zaa,List.range'_one,mT1,zen,t2,k1,zcy]
  exact h _ t2 (by rw [hz]; rfl)
def vOk (mv:GVal→Bool)(e:Exp):Bool:=if e.op=0 then mv e.v && decide (e.v.kind ≠ 7) else zfy e.v
theorem m2 {e:Exp}{mv:GVal→Bool}(hv:e.op=0→lcall E 110 [e.v.arg] []=some (.d (.b (mv e.v)),[])){R:CCode}{Q:Ex→St→Prop}(h:∀ tm,za1 tm 2 = .ptr 0 0→za1 tm 8 = .d (.b (vOk mv e))→WX E R ⟨tm,[bxE e]⟩ Q){tm:List (Nat × V)}(t2:za1 tm 2 = .ptr 0 0)(t8:za1 tm 8 = .d (.b (zfy e.v))):WX E (.seq mT2 R) ⟨tm,[bxE e]⟩ (Q):=by
 by_cases k1:e.op=0
 ·have c1:lcall E 110 [.agg [.d (.i .i64 e.v.kind),.d (.i .i64 e.v.i),.d (.s e.v.s),.d (.l 4 (zbu e.v.l))]] []=some (.d (.b (mv e.v)),[]):=hv k1
  cases hm:mv e.v with
  | false =>
   rw [hm] at c1
   have hz:vOk mv e=false:=by unfold vOk; rw [if_pos k1,hm]; rfl
   simp only [zab,simprocAttr,zaa,List.range'_one,mT2,zen,t2,t8,eq_true k1,c1]
   exact h _ t2 (by rw [hz]; rfl)
  | true =>
   rw [hm] at c1
   by_cases k7:e.v.kind=7
   ·have hz:vOk mv e=false:=by unfold vOk; rw [if_pos k1,hm]; simp [k7]
    have k7':(e.v.kind != 7)=false:=by simp [k7]
    simp only [zab,simprocAttr,zaa,List.range'_one,mT2,zen,t2,t8,eq_true k1,c1,k7']
    exact h _ t2 (by rw [hz]; show V.d (D.b (decide ¬e.v.kind=7))=_; simp [k7])
   ·have hz:vOk mv e=true:=by unfold vOk; rw [if_pos k1,hm]; simp [k7]
    have k7':(e.v.kind != 7)=true:=by simp [k7]
    simp only [zab,simprocAttr,zaa,List.range'_one,mT2,zen,t2,t8,eq_true k1,c1,k7']
    exact h _ t2 (by rw [hz]; show V.d (D.b (decide ¬e.v.kind=7))=_; simp [k7])
 ·have hz:vOk mv e=zfy e.v:=by unfold vOk; rw [if_neg k1]
  simp only [zab,simprocAttr,zaa,List.range'_one,mT2,zen,t2,t8,k1]
  exact h _ t2 (by rw [hz]; exact t8)
def zjw (op:Int):Bool:=decide (op=1) || decide (op=2) || decide (op=3)
theorem m3 {e:Exp}{b:Bool}{R:CCode}{Q:Ex→St→Prop}(h:∀ tm,za1 tm 2 = .ptr 0 0→za1 tm 8 = .d (.b b)→za1 tm 9 = .d (.b (zjw e.op))→WX E R ⟨tm,[bxE e]⟩ Q){tm:List (Nat × V)}(t2:za1 tm 2 = .ptr 0 0)(t8:za1 tm 8 = .d (.b b)):WX E (.seq (.region false mT3) R) ⟨tm,[bxE e]⟩ (Q):=by
 by_cases k1:e.op=1
 ·have hz:zjw e.op=true:=by simp [zjw,k1]
  simp only [zab,simprocAttr,zaa,List.range'_one,mT3,zen,t2,t8,eq_true k1]
  exact h _ t2 t8 (by rw [hz]; rfl)
 by_cases k2:e.op=2
 ·have hz:zjw e.op=true:=by simp [zjw,k2]
  simp only [zab,simprocAttr,zaa,List.range'_one,mT3,zen,t2,t8,k1,eq_true k2]
  exact h _ t2 t8 (by rw [hz]; rfl)
 by_cases k3:e.op=3
 ·have hz:zjw e.op=true:=by simp [zjw,k3]
  simp only [zab,simprocAttr,zaa,List.range'_one,mT3,zen,t2,t8,k1,k2,eq_true k3]
  exact h _ t2 t8 (by rw [hz]; rfl)
 ·have hz:zjw e.op=false:=by simp [zjw,k1,k2,k3]
  simp only [zab,simprocAttr,zaa,List.range'_one,mT3,zen,t2,t8,k1,k2,k3]
  exact h _ t2 t8 (by rw [hz]; rfl)
def zkh (b:Bool)(e:Exp):Bool:=b && (decide (0 ≤ e.occ) && (decide (e.occ ≤ 5) && ((zjw e.op || decide (e.occ=0)) && (decide (0 ≤ e.attr) && (decide (e.attr < 8) && (decide (e.op=1) || decide (e.attr=0)))))))
theorem m4 {e:Exp}{b:Bool}{R:CCode}{Q:Ex→St→Prop}(h:∀ tm,za1 tm 4 = .d (.b (zkh b e))→WX E R ⟨tm,[bxE e]⟩ Q){tm:List (Nat × V)}(t2:za1 tm 2 = .ptr 0 0)(t8:za1 tm 8 = .d (.b b))(t9:za1 tm 9 = .d (.b (zjw e.op))):WX E (.seq (.region false mT4) R) ⟨tm,[bxE e]⟩ (Q):=by
 cases b with
 | false =>
  have hz:zkh false e=false:=rfl
  simp only [zab,simprocAttr,zaa,List.range'_one,mT4,zen,t2,t8,t9]
  exact h _ (by rw [hz]; rfl)
 | true =>
 by_cases k1:0 ≤ e.occ
 case neg =>
  have hz:zkh true e=false:=by unfold zkh; rw [decide_eq_false k1]; rfl
  simp only [zab,simprocAttr,zaa,List.range'_one,mT4,zen,t2,t8,t9,k1]
  exact h _ (by rw [hz]; rfl)
 by_cases k2:e.occ ≤ 5
 case neg =>
  have hz:zkh true e=false:=by unfold zkh; rw [Ql k1,decide_eq_false k2]; rfl
  simp only [zab,simprocAttr,zaa,List.range'_one,mT4,zen,t2,t8,t9,eq_true k1,k2]
  exact h _ (by rw [hz]; rfl)
 cases ho:zjw e.op with
 | true =>
  rw [ho] at t9
  by_cases k4:0 ≤ e.attr
  case neg =>
   have hz:zkh true e=false:=by unfold zkh; rw [Ql k1,Ql k2,ho,decide_eq_false k4]; rfl
   simp only [zab,simprocAttr,zaa,List.range'_one,mT4,zen,t2,t8,t9,eq_true k1,eq_true k2,k4]
   exact h _ (by rw [hz]; rfl)
  by_cases k5:e.attr < 8
  case neg =>
   have hz:zkh true e=false:=by unfold zkh; rw [Ql k1,Ql k2,ho,Ql k4,decide_eq_false k5]; rfl
   simp only [zab,simprocAttr,zaa,List.range'_one,mT4,zen,t2,t8,t9,eq_true k1,eq_true k2,eq_true k4,k5]
   exact h _ (by rw [hz]; rfl)
  by_cases k6:e.op=1
  ·have hz:zkh true e=true:=by unfold zkh; rw [Ql k1,Ql k2,ho,Ql k4,Ql k5,Ql k6]; rfl
   simp only [zab,simprocAttr,zaa,List.range'_one,mT4,zen,t2,t8,t9,eq_true k1,eq_true k2,eq_true k4,eq_true k5,eq_true k6]
   exact h _ (by rw [hz]; rfl)
  by_cases k7:e.attr=0
  ·have hz:zkh true e=true:=by unfold zkh; rw [Ql k1,Ql k2,ho,Ql k4,Ql k5,Ql k7]; simp
   simp only [zab,simprocAttr,zaa,List.range'_one,mT4,zen,t2,t8,t9,eq_true k1,eq_true k2,eq_true k4,eq_true k5,k6,eq_true k7]
   exact h _ (by rw [hz]; rfl)
  ·have hz:zkh true e=false:=by unfold zkh; rw [Ql k1,Ql k2,ho,Ql k4,Ql k5,decide_eq_false k6,decide_eq_false k7]; rfl
   simp only [zab,simprocAttr,zaa,List.range'_one,mT4,zen,t2,t8,t9,eq_true k1,eq_true k2,eq_true k4,eq_true k5,k6,k7]
   exact h _ (by rw [hz]; rfl)
 | false =>
  rw [ho] at t9
  by_cases k3:e.occ=0
  case neg =>
   have hz:zkh true e=false:=by unfold zkh; rw [Ql k1,Ql k2,ho,decide_eq_false k3]; rfl
   simp only [zab,simprocAttr,zaa,List.range'_one,mT4,zen,t2,t8,t9,eq_true k1,eq_true k2,k3]
   exact h _ (by rw [hz]; rfl)
  by_cases k4:0 ≤ e.attr
  case neg =>
   have hz:zkh true e=false:=by unfold zkh; rw [Ql k1,Ql k2,ho,Ql k3,decide_eq_false k4]; rfl
   simp only [zab,simprocAttr,zaa,List.range'_one,mT4,zen,t2,t8,t9,eq_true k1,eq_true k2,eq_true k3,k4]
   exact h _ (by rw [hz]; rfl)
  by_cases k5:e.attr < 8
  case neg =>
   have hz:zkh true e=false:=by unfold zkh; rw [Ql k1,Ql k2,ho,Ql k3,Ql k4,decide_eq_false k5]; rfl
   simp only [zab,simprocAttr,zaa,List.range'_one,mT4,zen,t2,t8,t9,eq_true k1,eq_true k2,eq_true k3,eq_true k4,k5]
   exact h _ (by rw [hz]; rfl)
  have k6:¬ e.op=1:=fun h1=>by simp [zjw,h1] at ho
  by_cases k7:e.attr=0
  ·have hz:zkh true e=true:=by unfold zkh; rw [Ql k1,Ql k2,ho,Ql k3,Ql k4,Ql k5,Ql k7]; simp
   simp only [zab,simprocAttr,zaa,List.range'_one,mT4,zen,t2,t8,t9,eq_true k1,eq_true k2,eq_true k3,eq_true k4,eq_true k5,k6,eq_true k7]
   exact h _ (by rw [hz]; rfl)
  ·have hz:zkh true e=false:=by unfold zkh; rw [Ql k1,Ql k2,ho,Ql k3,Ql k4,Ql k5,decide_eq_false k6,decide_eq_false k7]; rfl
   simp only [zab,simprocAttr,zaa,List.range'_one,mT4,zen,t2,t8,t9,eq_true k1,eq_true k2,eq_true k3,eq_true k4,eq_true k5,k6,k7]
   exact h _ (by rw [hz]; rfl)
theorem z09 (mv:GVal→Bool)(e:Exp):zkh (vOk mv e) e=zer mv e.op e.v e.occ e.attr:=by
 unfold zkh vOk zer zjw
 have a8:decide (e.attr < 8)=decide (e.attr ≤ 7):=by rw [decide_eq_decide]; omega
 have z1:∀ n:Int,(decide (0 ≤ n) && (decide (n ≤ 5) && decide (n=0)))=decide (n=0):=fun n=>by
  by_cases h:n=0
  ·subst h; rfl
  ·rw [decide_eq_false h]; simp
 rw [a8]
 by_cases k0:e.op=0
 ·rw [if_pos k0,if_pos k0]
  have b1:¬ e.op=1:=by omega
  have b2:¬ e.op=2:=by omega
  have b3:¬ e.op=3:=by omega
  simp only [b1,b2,b3,decide_false,Bool.false_or]
  by_cases h1:e.occ=0 <;> by_cases h2:e.attr=0 <;> cases mv e.v <;> cases hk:decide (e.v.kind ≠ 7) <;> simp [h1,h2]
 rw [if_neg k0,if_neg k0]
 by_cases k1:e.op=1
 ·rw [if_pos k1,if_pos k1]
  simp [k1]
 by_cases k2:e.op=2
 ·rw [if_neg k1,if_pos k2,if_neg k1]
  simp only [k1,k2,decide_false,decide_true,Bool.false_or,Bool.true_or,Bool.or_true,Bool.true_and]
  by_cases h2:e.attr=0
  ·simp [h2]
  ·have h3:(decide (0 ≤ e.attr) && decide (e.attr ≤ 0))=false:=by
    rw [Bool.and_eq_false_iff]; simp only [decide_eq_false_iff_not]; omega
   simp only [h2,h3,decide_false,Bool.and_false]
   simp
 by_cases k3:e.op=3
 ·rw [if_neg k1,if_neg k2,if_pos k3,if_neg k1]
  simp only [k1,k2,k3,decide_false,decide_true,Bool.false_or,Bool.true_or,Bool.or_true,Bool.true_and]
  by_cases h2:e.attr=0
  ·simp [h2]
  ·have h3:(decide (0 ≤ e.attr) && decide (e.attr ≤ 0))=false:=by
    rw [Bool.and_eq_false_iff]; simp only [decide_eq_false_iff_not]; omega
   simp only [h2,h3,decide_false,Bool.and_false]
   simp
 ·rw [if_neg k1,if_neg k2,if_neg k3,if_neg k1]
  simp only [k1,k2,k3,decide_false,Bool.false_or]
  by_cases h1:e.occ=0
  ·by_cases h2:e.attr=0
   ·simp [h1,h2]
   ·have h3:(decide (0 ≤ e.attr) && decide (e.attr ≤ 0))=false:=by
     rw [Bool.and_eq_false_iff]; simp only [decide_eq_false_iff_not]; omega
    simp only [h1,h2,h3,decide_false,Bool.and_false]
  ·have h3:(decide (0 ≤ e.occ) && (decide (e.occ ≤ 0) && (decide (0 ≤ e.attr) && decide (e.attr ≤ 0))))=false:=by
    rw [← Bool.and_assoc,show (decide (0 ≤ e.occ) && decide (e.occ ≤ 0))=false by rw [Bool.and_eq_false_iff]; simp only [decide_eq_false_iff_not]; omega]; rfl
   simp only [h1,h3,decide_false,Bool.false_and,Bool.and_false]
def zv7:CCode:=match zen.body with
 | .seq _ (.seq _ (.seq _ (.seq (.seq _ (.block _ (.loop _ c))) _)))=>c
 | _=>.skip
theorem z1a {mv:GVal→Bool}{e:Exp}(hl:e.args.length ≤ 4){d:Int}(hd:1 ≤ d∧d ≤ 1000000)(ih:∀ x ∈ e.args,lcall E 275 [x.arg,.d (.i .i64 (d - 1))] []=some (.d (.b (zk3 mv x (d - 1))),[])){Q:Ex→St→Prop}
  (hx:∀ tm,zev mv e.args (d - 1)=true→za1 tm 2 = .ptr 0 0→Q (.exit 0) ⟨tm,[bxE e]⟩) (hr:∀ tm hp,zev mv e.args (d - 1)=false→za1 tm 4 = .d (.b false)→Q .ret ⟨tm,hp⟩) :
  ∀ (m i:Nat),i + m=e.args.length→(zev mv e.args (d - 1)=zev mv (e.args.drop i) (d - 1)) →
   LX E zv7 ⟨[1,2,7],[],[],[],[],true⟩ 1 ⟨[(1,.d (.i .i64 d)),(2,.ptr 0 0),(7,.d (.i .i64 i))],[bxE e]⟩ Q:=by
 intro m
 induction m with
 | zero =>
  intro i hi hall
  have hn:¬ ((i:Int) < e.args.length):=by omega
  refine zah ?_
  simp only [zab,simprocAttr,zaa,List.range'_one,zv7,zen,Qf,hn]
  exact hx _ (by rw [hall,List.drop_of_length_le (by omega)]; rfl) rfl
 | succ m ihm =>
  intro i hi hall
  have hy:(i:Int) < e.args.length:=by omega
  have la:i < e.args.length:=by omega
  have h0:(0:Int) ≤ i:=by omega
  have ga:(e.args.map Exp.row)[i]?=some (Exp.row e.args[i]):=by rw [List.getElem?_map,Qd la]; rfl
  have w:IntKind.i64.wrap ((i:Int) + 1)=((i + 1:Nat):Int):=by rw [zda (by omega) (by omega)]; omega
  have wd:IntKind.i64.wrap (d - 1)=d - 1:=zda (by omega) (by omega)
  have hc:=ih _ (List.getElem_mem la)
  rw [List.drop_eq_getElem_cons la] at hall
  simp only [zev] at hall
  generalize e.args[i]=x at *
  rw [zfc] at ga
  refine zah ?_
  cases hv:zk3 mv x (d - 1) with
  | true =>
   rw [hv] at hc
   rw [hv,Bool.true_and] at hall
   simp only [zab,simprocAttr,zaa,List.range'_one,zv7,zen,Qf,eq_true hy,eq_true h0,ga,wd,hc,w,Qk]
   exact ⟨_,rfl,ihm (i + 1) (by omega) hall⟩
  | false =>
   rw [hv] at hc
   rw [hv,Bool.false_and] at hall
   simp only [zab,simprocAttr,zaa,List.range'_one,zv7,zen,Qf,eq_true hy,eq_true h0,ga,wd,hc,w,Qk]
   exact hr _ _ hall rfl
theorem Zeb (e275:E 275=some (.code zen))(e278:E 278=some (.code zn8)){mv:GVal→Bool}{P:GVal→Prop}(hv:∀ v:GVal,P v→lcall E 110 [v.arg] []=some (.d (.b (mv v)),[])):∀ (n:Nat) (e:Exp) (d:Int),sizeOf e < n→AllV P e→0 ≤ d→d ≤ 1000 →
  lcall E 275 [e.arg,.d (.i .i64 d)] []=some (.d (.b (zk3 mv e d)),[]):=by
 intro n
 induction n with
 | zero=>intro e d hs; omega
 | succ n ih =>
  intro e d hs ha d0 d1
  cases ha with
  | mk hv0 hae hl =>
  rw [zuz]
  by_cases ht:za3 e.op = -2
  ·obtain ⟨k,ca⟩:=z08 e278 ht
   rw [Ql ht,Bool.not_true,Bool.false_and,Bool.and_false]
   refine zaq e275 ?_
   simp only [zab,simprocAttr,zaa,List.range'_one,zen,ca]
  have ca:=z5g e278 ht
  rw [decide_eq_false ht,Bool.not_false,Bool.true_and]
  by_cases hd:d < 1
  ·rw [decide_eq_false (p:=1 ≤ d) (by omega),Bool.false_and]
   refine zaq e275 ?_
   simp only [zab,simprocAttr,zaa,List.range'_one,zen,ca,eq_true hd]
  rw [decide_eq_true (p:=1 ≤ d) (by omega),Bool.true_and]
  have hc:∀ x ∈ e.args,lcall E 275 [x.arg,.d (.i .i64 (d - 1))] []=some (.d (.b (zk3 mv x (d - 1))),[]):=fun x hx =>
   ih x (d - 1) (by have:=zlp hx; omega) (hae x hx) (by omega) (by omega)
  have hvv:e.op=0→lcall E 110 [e.v.arg] []=some (.d (.b (mv e.v)),[]):=fun h=>hv _ (hv0 h)
  refine zaq e275 ?_
  by_cases hn:0 ≤ za3 e.op
  ·by_cases hln:(e.args.length:Int)=za3 e.op
   ·have hne:decide (¬ (e.args.length:Int)=za3 e.op)=false:=by simp [hln]
    rw [Ql hln,Bool.or_true,Bool.true_and]
    by_cases h4:(4:Int) < e.args.length
    ·rw [decide_eq_false (p:=(e.args.length:Int) ≤ 4) (by omega),Bool.false_and]
     simp only [zab,simprocAttr,zaa,List.range'_one,zen,ca,hd,eq_true hn,Qf,hne,eq_true h4,ge_iff_le]
    rw [decide_eq_true (p:=(e.args.length:Int) ≤ 4) (by omega),Bool.true_and]
    simp only [zab,simprocAttr,zaa,List.range'_one,zen,ca,hd,eq_true hn,Qf,hne,h4,ge_iff_le]
    refine z1a (by omega) (by omega) hc (fun tm hall t2=>?_) (fun tm hp hall t4=>?_) e.args.length 0 (by omega) rfl
    ·rw [hall,Bool.and_true]
     refine m1 (fun tm t2 t8=>m2 hvv (fun tm t2 t8=>m3 (fun tm t2 t8 t9=>m4 (fun tm t4=>?_) t2 t8 t9) t2 t8) t2 t8) t2
     rw [z09] at t4
     simp only [zab,simprocAttr,zaa,List.range'_one,zen,t4]
    ·rw [hall,Bool.and_false]
     simp only [zab,simprocAttr,zaa,List.range'_one,zen,t4]
   ·have hne:decide (¬ (e.args.length:Int)=za3 e.op)=true:=by simp [hln]
    rw [decide_eq_false hln,decide_eq_false (p:=za3 e.op < 0) (by omega),Bool.or_false,Bool.false_and]
    simp only [zab,simprocAttr,zaa,List.range'_one,zen,ca,hd,eq_true hn,Qf,hne,ge_iff_le]
  ·rw [decide_eq_true (p:=za3 e.op < 0) (by omega),Bool.true_or,Bool.true_and]
   by_cases h4:(4:Int) < e.args.length
   ·rw [decide_eq_false (p:=(e.args.length:Int) ≤ 4) (by omega),Bool.false_and]
    simp only [zab,simprocAttr,zaa,List.range'_one,zen,ca,hd,hn,Qf,eq_true h4,ge_iff_le]
   rw [decide_eq_true (p:=(e.args.length:Int) ≤ 4) (by omega),Bool.true_and]
   simp only [zab,simprocAttr,zaa,List.range'_one,zen,ca,hd,hn,Qf,h4,ge_iff_le]
   refine z1a (by omega) (by omega) hc (fun tm hall t2=>?_) (fun tm hp hall t4=>?_) e.args.length 0 (by omega) rfl
   ·rw [hall,Bool.and_true]
    refine m1 (fun tm t2 t8=>m2 hvv (fun tm t2 t8=>m3 (fun tm t2 t8 t9=>m4 (fun tm t4=>?_) t2 t8 t9) t2 t8) t2 t8) t2
    rw [z09] at t4
    simp only [zab,simprocAttr,zaa,List.range'_one,zen,t4]
   ·rw [hall,Bool.and_false]
    simp only [zab,simprocAttr,zaa,List.range'_one,zen,t4]
theorem z9t (e268:E 268=some (.code Za4))(e275:E 275=some (.code zen))(e278:E 278=some (.code zn8)){mv:GVal→Bool}{P:GVal→Prop}(hv:∀ v:GVal,P v→lcall E 110 [v.arg] []=some (.d (.b (mv v)),[])){e:Exp}(ha:AllV P e) :
  lcall E 268 [e.arg] []=some (.d (.b (zk3 mv e 12)),[]):=by
 have c1:=Zeb e275 e278 hv (sizeOf e + 1) e 12 (by omega) ha (by omega) (by omega)
 refine zaq e268 ?_
 simp only [zab,simprocAttr,zaa,List.range'_one,Za4,c1]
open Go
def zpe:CCode:=match zl0.body with
 | .seq _ (.seq _ (.seq (.seq _ (.block _ (.loop _ c))) _))=>c
 | _=>.skip
def z7j:CCode:=match zpe with
 | .seq _ (.seq (.block _ (.seq _ (.seq _ (.seq (.seq _ (.block _ (.loop _ c))) _)))) _)=>c
 | _=>.skip
def Zjq:CCode:=match z7j with
 | .seq _ (.seq (.block _ (.seq _ (.seq _ (.block _ (.loop _ c))))) _)=>c
 | _=>.skip
def z1b:CCode:=match zpe with
 | .seq _ (.seq (.block _ (.seq _ (.seq _ (.seq _ (.seq _ (.seq _ (.block _ (.loop _ c)))))))) _)=>c
 | _=>.skip
def Zec:CCode:=match z1b with
 | .seq _ (.seq (.block _ (.seq _ (.seq _ (.seq _ (.seq _ (.block _ (.loop _ c))))))) _)=>c
 | _=>.skip
theorem z1c (g:Gram)(p:GProd)(o:Int):∀ (n a:Nat),(zem g p o a n).length ≤ n
 | 0,_=>Nat.le_refl _
 | n + 1,a=>by
  have:=z1c g p o n (a + 1)
  simp only [zem,Qg]
  split <;> simp <;> omega
theorem zv8 (g:Gram)(p:GProd)(o:Int)(h:(zcn p o).2=false):∀ (n a:Nat),zem g p o a n=[]
 | 0,_=>rfl
 | n + 1,a=>by
  have hw:ze2 g p (o,a)=false:=by simp only [ze2,h,Bool.false_and]
  simp only [zem,hw,zv8 g p o h n (a + 1),Qm,if_false,List.nil_append]
theorem z5h {g:Gram}{p:GProd}{o:Int}{a:Nat}(h:(zcn p o).2=true)(ha:(a:Int) < za7 g (zcn p o).1):z7f g p (o,a)=ze2 g p (o,a):=by
 have h0:decide ((0:Int) ≤ (a:Int))=true:=Ql (by omega)
 simp only [z7f,ze2,inF,h,h0,Ql ha,Bool.true_and]
theorem z5i (B:PE E)(K:KE E){g:Gram}(hg:g.Ok){p:GProd}(hp:p.Ok){i:Int}{o:Int}(hok:(zcn p o).2=true){Q:Ex→St→Prop}:∀ (m a:Nat) (need:Nat),(a:Int) + m=za7 g (zcn p o).1→need + (zem g p o a m).length ≤ 1000000000 →
  (∀ tm,za1 tm 1 = .ptr 0 0→za1 tm 3 = .d (.i .i64 i)→za1 tm 4 = .ptr 1 0→za1 tm 6 = .d (.i .i64 o)→za1 tm 5 = .d (.i .i64 ((need + (zem g p o a m).length:Nat):Int))→Q (.exit 4) ⟨tm,[bxG g,bxP p]⟩) →
  LX E Zjq ⟨[1,3,4,5,6,7,8,9],[],[],[],[],true⟩ 2 ⟨[(1,.ptr 0 0),(3,.d (.i .i64 i)),(4,.ptr 1 0),(5,.d (.i .i64 need)),(6,.d (.i .i64 o)),(7,.d (.i .i64 (zcn p o).1)),(8,.d (.b true)),(9,.d (.i .i64 a))],[bxG g,bxP p]⟩ Q:=by
 have c1:=zn6 B hg (zcn p o).1
 intro m
 induction m with
 | zero =>
  intro a need ha hn hQ
  have hl:¬ ((a:Int) < za7 g (zcn p o).1):=by omega
  simp only [zem,List.length_nil,Nat.add_zero] at hQ
  refine zah ?_
  simp only [zab,simprocAttr,zaa,List.range'_one,Zjq,z7j,zpe,zl0,c1,hl]
  exact hQ _ rfl rfl rfl rfl rfl
 | succ m ih =>
  intro a need ha hn hQ
  have hl:(a:Int) < za7 g (zcn p o).1:=by omega
  have hcb:za7 g (zcn p o).1 ≤ 2000:=by
   have:=ztb hg (zcn p o).1
   unfold za7; omega
  have c2:=zui B K hg hp o a
  rw [z5h hok hl] at c2
  have w:IntKind.i64.wrap ((a:Int) + 1)=((a + 1:Nat):Int):=by rw [zda (by omega) (by omega)]; omega
  refine zah ?_
  cases hw:ze2 g p (o,(a:Int))
  ·rw [hw] at c2
   have e:zem g p o a (m + 1)=zem g p o (a + 1) m:=by simp only [zem,hw,Qm,if_false,List.nil_append]
   rw [e] at hn hQ
   simp only [zab,simprocAttr,zaa,List.range'_one,Zjq,z7j,zpe,zl0,c1,c2,eq_true hl,w]
   exact ⟨_,rfl,ih (a + 1) need (by omega) hn hQ⟩
  ·rw [hw] at c2
   have e:zem g p o a (m + 1)=(o,(a:Int)) :: zem g p o (a + 1) m:=by simp only [zem,hw,if_true,List.singleton_append]
   rw [e,List.length_cons] at hn hQ
   have w2:IntKind.i64.wrap ((need:Int) + 1)=((need + 1:Nat):Int):=by rw [zda (by omega) (by omega)]; omega
   simp only [zab,simprocAttr,zaa,List.range'_one,Zjq,z7j,zpe,zl0,c1,c2,eq_true hl,w,w2]
   exact ⟨_,rfl,ih (a + 1) (need + 1) (by omega) (by omega) (by rw [show need + 1 + (zem g p o (a + 1) m).length=need + ((zem g p o (a + 1) m).length + 1) by omega]; exact hQ)⟩
theorem z5j (B:PE E)(K:KE E){g:Gram}(hg:g.Ok){p:GProd}(hp:p.Ok){i:Int}{Q:Ex→St→Prop}:∀ (m o:Nat) (need:Nat),o + m=p.right.length + 1→need + (zfr g p o m).length ≤ 1000000000 →
  (∀ tm,za1 tm 1 = .ptr 0 0→za1 tm 3 = .d (.i .i64 i)→za1 tm 4 = .ptr 1 0→za1 tm 5 = .d (.i .i64 ((need + (zfr g p o m).length:Nat):Int))→Q (.exit 2) ⟨tm,[bxG g,bxP p]⟩) →
  LX E z7j ⟨[1,3,4,5,6],[],[],[],[],true⟩ 2 ⟨[(1,.ptr 0 0),(3,.d (.i .i64 i)),(4,.ptr 1 0),(5,.d (.i .i64 need)),(6,.d (.i .i64 o))],[bxG g,bxP p]⟩ Q:=by
 have hr:=hp.right
 intro m
 induction m with
 | zero =>
  intro o need ho hn hQ
  have hl:¬ ((o:Int) ≤ p.right.length):=by omega
  simp only [zfr,List.length_nil,Nat.add_zero] at hQ
  refine zah ?_
  simp only [zab,simprocAttr,zaa,List.range'_one,z7j,zpe,zl0,hl,Qf]
  exact hQ _ rfl rfl rfl rfl
 | succ m ih =>
  intro o need ho hn hQ
  have hl:(o:Int) ≤ p.right.length:=by omega
  have c1:=z7e K g hp o
  have w:IntKind.i64.wrap ((o:Int) + 1)=((o + 1:Nat):Int):=by rw [zda (by omega) (by omega)]; omega
  simp only [zfr,Qg] at hn hQ
  refine zah ?_
  cases hok:(zcn p o).2
  ·rw [hok] at c1
   rw [zv8 g p o hok,List.length_nil,Nat.zero_add] at hn hQ
   simp only [zab,simprocAttr,zaa,List.range'_one,z7j,zpe,zl0,c1,eq_true hl,w,Qf]
   refine zah ?_
   simp only [zab,simprocAttr,zaa,List.range'_one,w]
   exact ⟨_,rfl,ih (o + 1) need (by omega) hn hQ⟩
  ·rw [hok] at c1
   have hc0:0 ≤ za7 g (zcn p o).1:=by unfold za7; omega
   simp only [zab,simprocAttr,zaa,List.range'_one,z7j,zpe,zl0,c1,eq_true hl,w,Qf]
   refine z5i B K hg hp (i:=i) (o:=o) hok (za7 g (zcn p o).1).toNat 0 need (by omega) (by omega) (fun tm h1 h3 h4 h6 h5=>?_)
   simp only [zab,simprocAttr,zaa,List.range'_one,h1,h3,h4,h5,h6,w]
   exact ⟨_,rfl,ih (o + 1) (need + (zem g p o 0 (za7 g (zcn p o).1).toNat).length) (by omega) (by omega) (by rw [Nat.add_assoc]; exact hQ)⟩
open Go
abbrev Znq (r:GRule):Option Obj:=some (.box [.d (.i .i64 r.occ),.d (.i .i64 r.attr),.d (.i .i64 r.e.op),.d (.i .i64 r.e.v.kind),.d (.i .i64 r.e.v.i),.d (.s r.e.v.s),.d (.l 4 (zbu r.e.v.l)),.d (.i .i64 r.e.occ),.d (.i .i64 r.e.attr),.d (.l 8 (r.e.args.map Exp.row))])
theorem z5k {g:Gram}{p:GProd}(hl:p.rules.length ≤ 1000){r:GRule}{i:Int}{k:Nat}(hk:k ≤ p.rules.length){Q:Ex→St→Prop}
  (hno:(∃ j,∃ h:j < p.rules.length,j < k∧p.rules[j].at_=r.at_)→∀ tm hp,za1 tm 2 = .d (.b false)→Q .ret ⟨tm,hp⟩)
  (hyes:(∀ j (h:j < p.rules.length),j < k→p.rules[j].at_ ≠ r.at_)→∀ tm,za1 tm 1 = .ptr 0 0→za1 tm 3 = .d (.i .i64 i)→za1 tm 4 = .ptr 1 0→za1 tm 12 = .d (.i .i64 k)→Q (.exit 8) ⟨tm,[bxG g,bxP p,Znq r]⟩):∀ (m j:Nat),j + m=k→(∀ j' (h:j' < p.rules.length),j' < j→p.rules[j'].at_ ≠ r.at_) →
  LX E Zec ⟨[1,3,4,12,13,16],[],[],[],[],true⟩ 3 ⟨[(1,.ptr 0 0),(3,.d (.i .i64 i)),(4,.ptr 1 0),(12,.d (.i .i64 k)),(13,.ptr 2 0),(16,.d (.i .i64 j))],[bxG g,bxP p,Znq r]⟩ Q:=by
 intro m
 induction m with
 | zero =>
  intro j hj hd
  have hn:¬ ((j:Int) < (k:Int)):=by omega
  refine zah ?_
  simp only [zab,simprocAttr,zaa,List.range'_one,Zec,z1b,zpe,zl0,hn]
  exact hyes (fun j' h h'=>hd j' h (by omega)) _ rfl rfl rfl rfl
 | succ m ih =>
  intro j hj hd
  have hy:(j:Int) < (k:Int):=by omega
  have la:j < p.rules.length:=by omega
  have h0:(0:Int) ≤ j:=by omega
  have ga:(p.rules.map GRule.row)[j]?=some (GRule.row p.rules[j]):=by rw [List.getElem?_map,Qd la]; rfl
  have w:IntKind.i64.wrap ((j:Int) + 1)=((j + 1:Nat):Int):=by rw [zda (by omega) (by omega)]; omega
  have hnj:p.rules[j].at_=r.at_→Q .ret=Q .ret:=fun _=>rfl
  have next:p.rules[j].at_ ≠ r.at_→∀ j' (h:j' < p.rules.length),j' < j + 1→p.rules[j'].at_ ≠ r.at_:=fun hne j' h h'=>by
   by_cases e:j'=j
   ·subst e; exact hne
   ·exact hd j' h (by omega)
  have bad:p.rules[j].at_=r.at_→∀ tm hp,za1 tm 2 = .d (.b false)→Q .ret ⟨tm,hp⟩:=fun e=>hno ⟨j,la,by omega,e⟩
  simp only [GRule.row] at ga
  generalize p.rules[j]=x at *
  refine zah ?_
  by_cases e1:x.occ=r.occ
  ·by_cases e2:x.attr=r.attr
   ·simp only [zab,simprocAttr,zaa,List.range'_one,Zec,z1b,zpe,zl0,eq_true hy,eq_true h0,ga,Qf,eq_true e1,eq_true e2]
    refine ⟨by rfl,bad (by simp only [GRule.at_,e1,e2]) _ _ ?_⟩
    simp only [zab,simprocAttr,zaa,List.range'_one]
   ·simp only [zab,simprocAttr,zaa,List.range'_one,Zec,z1b,zpe,zl0,eq_true hy,eq_true h0,ga,Qf,eq_true e1,e2,w]
    exact ⟨by rfl,_,rfl,ih (j + 1) (by omega) (next (fun h=>e2 (congrArg Prod.snd h)))⟩
  ·simp only [zab,simprocAttr,zaa,List.range'_one,Zec,z1b,zpe,zl0,eq_true hy,eq_true h0,ga,Qf,e1,w]
   exact ⟨by rfl,_,rfl,ih (j + 1) (by omega) (next (fun h=>e1 (congrArg Prod.fst h)))⟩
def zg6 (mv:GVal→Bool)(g:Gram)(p:GProd)(r:GRule):Bool:=z7f g p r.at_ && (zk3 mv r.e 12 && z06 g p r.e)
def zjx (mv:GVal→Bool)(g:Gram)(p:GProd):Bool:=p.rules.all (zg6 mv g p) && decide (p.rules.map GRule.at_).Nodup
theorem z5l (B:PE E)(K:KE E)(e268:E 268=some (.code Za4))(e275:E 275=some (.code zen))(e278:E 278=some (.code zn8)){mv:GVal→Bool}{P:GVal→Prop}(hv:∀ v:GVal,P v→lcall E 110 [v.arg] []=some (.d (.b (mv v)),[]))
  {g:Gram} (hg:g.Ok) {p:GProd} (hp:p.Ok) (ha:∀ r ∈ p.rules,AllV P r.e) {i:Int} {Q:Ex→St→Prop}
  (hno:zjx mv g p=false→∀ tm hp,za1 tm 2 = .d (.b false)→Q .ret ⟨tm,hp⟩)
  (hyes:zjx mv g p=true→∀ tm,za1 tm 1 = .ptr 0 0→za1 tm 3 = .d (.i .i64 i)→Q (.exit 6) ⟨tm,[bxG g,bxP p]⟩) :
  ∀ (m k:Nat),k + m=p.rules.length→(∀ j (h:j < p.rules.length),j < k→zg6 mv g p p.rules[j]=true)→(∀ a b (ha:a < p.rules.length) (hb:b < p.rules.length),a < b→b < k→p.rules[a].at_ ≠ p.rules[b].at_) →
  LX E z1b ⟨[1,3,4,12],[],[],[],[],true⟩ 2 ⟨[(1,.ptr 0 0),(3,.d (.i .i64 i)),(4,.ptr 1 0),(12,.d (.i .i64 k))],[bxG g,bxP p]⟩ Q:=by
 have hl:=hp.rules
 intro m
 induction m with
 | zero =>
  intro k hk h1 h2
  have hn:¬ ((k:Int) < p.rules.length):=by omega
  refine zah ?_
  simp only [zab,simprocAttr,zaa,List.range'_one,z1b,zpe,zl0,hn,Qf]
  refine hyes ?_ _ rfl rfl
  have n1:p.rules.all (zg6 mv g p)=true:=List.all_eq_true.2 (fun x hx=>by obtain ⟨a,ha,rfl⟩:=List.getElem_of_mem hx; exact h1 a ha (by omega))
  have n2:(p.rules.map GRule.at_).Nodup:=List.pairwise_iff_getElem.2 (fun a b ha hb hab=>by
   rw [Qf] at ha hb
   rw [List.getElem_map,List.getElem_map]
   exact h2 a b ha hb hab (by omega))
  simp only [zjx,n1,Ql n2,Bool.and_self]
 | succ m ih =>
  intro k hk h1 h2
  have hy:(k:Int) < p.rules.length:=by omega
  have la:k < p.rules.length:=by omega
  have h0:(0:Int) ≤ k:=by omega
  have ga:(p.rules.map GRule.row)[k]?=some (GRule.row p.rules[k]):=by rw [List.getElem?_map,Qd la]; rfl
  have w:IntKind.i64.wrap ((k:Int) + 1)=((k + 1:Nat):Int):=by rw [zda (by omega) (by omega)]; omega
  have c1:=zui B K hg hp p.rules[k].occ p.rules[k].attr
  have c2:=z9t e268 e275 e278 hv (ha _ (List.getElem_mem la))
  have c3:=Zd6 B K hg hp (sizeOf p.rules[k].e + 1) p.rules[k].e (by omega) (ha _ (List.getElem_mem la))
  have bad:zg6 mv g p p.rules[k]=false→zjx mv g p=false:=fun h=>by
   have:p.rules.all (zg6 mv g p)=false:=by
    rw [List.all_eq_false]
    exact ⟨p.rules[k],List.getElem_mem la,by simp [h]⟩
   simp only [zjx,this,Bool.false_and]
  have dup:(∃ j,∃ h:j < p.rules.length,j < k∧p.rules[j].at_=p.rules[k].at_)→zjx mv g p=false:=fun ⟨j,hj,hjk,e⟩=>by
   have:¬ (p.rules.map GRule.at_).Nodup:=fun hnd=>by
    have:=(List.pairwise_iff_getElem.1 hnd) j k (by simpa using hj) (by simpa using la) hjk
    rw [List.getElem_map,List.getElem_map] at this
    exact this e
   simp only [zjx,decide_eq_false this,Bool.and_false]
  have good:zg6 mv g p p.rules[k]=true→∀ j (h:j < p.rules.length),j < k + 1→zg6 mv g p p.rules[j]=true:=fun hr j h h'=>by
   by_cases e:j=k
   ·subst e; exact hr
   ·exact h1 j h (by omega)
  have nodup:(∀ j (h:j < p.rules.length),j < k→p.rules[j].at_ ≠ p.rules[k].at_)→∀ a b (ha:a < p.rules.length) (hb:b < p.rules.length),a < b→b < k + 1→p.rules[a].at_ ≠ p.rules[b].at_:=fun hd a b ha hb hab hbk=>by
   by_cases e:b=k
   ·subst e; exact hd a ha hab
   ·exact h2 a b ha hb hab (by omega)
  simp only [GRule.row] at ga
  have loop4:=@z5k E g p hl p.rules[k] i k (by omega)
  generalize p.rules[k]=r at *
  refine zah ?_
  cases ho:z7f g p (r.occ,r.attr)
  ·rw [ho] at c1
   have hb:zg6 mv g p r=false:=by simp only [zg6,GRule.at_,ho,Bool.false_and]
   simp only [zab,simprocAttr,zaa,List.range'_one,z1b,zpe,zl0,eq_true hy,eq_true h0,ga,Qf,ofDs,Qb,Qc,c1]
   refine hno (bad hb) _ _ ?_
   simp only [zab,simprocAttr,zaa,List.range'_one]
  rw [ho] at c1
  cases hm:zk3 mv r.e 12
  ·rw [hm] at c2
   have hb:zg6 mv g p r=false:=by simp only [zg6,GRule.at_,hm,Bool.false_and,Bool.and_false]
   simp only [zab,simprocAttr,zaa,List.range'_one,z1b,zpe,zl0,eq_true hy,eq_true h0,ga,Qf,ofDs,Qb,Qc,c1,c2]
   refine hno (bad hb) _ _ ?_
   simp only [zab,simprocAttr,zaa,List.range'_one]
  rw [hm] at c2
  cases hx:z06 g p r.e
  ·rw [hx] at c3
   have hb:zg6 mv g p r=false:=by simp only [zg6,GRule.at_,hx,Bool.and_false]
   simp only [zab,simprocAttr,zaa,List.range'_one,z1b,zpe,zl0,eq_true hy,eq_true h0,ga,Qf,ofDs,Qb,Qc,c1,c2,c3]
   refine hno (bad hb) _ _ ?_
   simp only [zab,simprocAttr,zaa,List.range'_one]
  rw [hx] at c3
  have hb:zg6 mv g p r=true:=by simp only [zg6,GRule.at_,ho,hm,hx,Bool.and_self]
  simp only [zab,simprocAttr,zaa,List.range'_one,z1b,zpe,zl0,eq_true hy,eq_true h0,ga,Qf,ofDs,Qb,Qc,c1,c2,c3]
  refine loop4 (fun he tm hp h2'=>?_) (fun hd tm t1 t3 t4 t12=>?_) k 0 (by omega) (fun j' h h'=>by omega)
  ·simp only [zab,simprocAttr,zaa,List.range'_one,h2']
   refine hno (dup he) _ _ ?_
   simp only [zab,simprocAttr,zaa,List.range'_one,h2']
  ·simp only [zab,simprocAttr,zaa,List.range'_one,t1,t3,t4,t12,w]
   exact ⟨_,rfl,ih (k + 1) (by omega) (good hb) (nodup hd)⟩
open Go
def zjy (mv:GVal→Bool)(g:Gram)(p:GProd):Bool:=decide ((zd6 g p).length=p.rules.length) && zjx mv g p
def z5m (mv:GVal→Bool)(g:Gram):Bool:=zh0 g && (zlq g && g.prods.all (zjy mv g))
structure DE (E:Nat→Option Fn):Prop where
 e393:E 393=some (.code zh5)
 e412:E 412=some (.code zxx)
 e429:E 429=some (.code zre)
 e268:E 268=some (.code Za4)
 e275:E 275=some (.code zen)
 e278:E 278=some (.code zn8)
theorem z1d {g:Gram}(hg:g.Ok)(p:GProd):∀ (n o:Nat),(zfr g p o n).length ≤ n * 2000
 | 0,_=>by simp [zfr]
 | n + 1,o=>by
  have h1:=z1d hg p n (o + 1)
  have h2:=z1c g p o (za7 g (zcn p o).1).toNat 0
  have hc:za7 g (zcn p o).1 ≤ 2000:=by
   have:=ztb hg (zcn p o).1
   unfold za7; omega
  simp only [zfr,Qg]
  omega
theorem z5n (B:PE E)(K:KE E)(Z:DE E){mv:GVal→Bool}{P:GVal→Prop}(hv:∀ v:GVal,P v→lcall E 110 [v.arg] []=some (.d (.b (mv v)),[]))
  {g:Gram} (hg:g.Ok) (ha:∀ p ∈ g.prods,∀ r ∈ p.rules,AllV P r.e) {Q:Ex→St→Prop}
  (hno:g.prods.all (zjy mv g)=false→∀ tm hp,za1 tm 2 = .d (.b false)→Q .ret ⟨tm,hp⟩)
  (hyes:g.prods.all (zjy mv g)=true→∀ tm hp,Q (.exit 0) ⟨tm,hp⟩) :
  ∀ (m i:Nat),i + m=g.prods.length→(g.prods.all (zjy mv g)=(g.prods.drop i).all (zjy mv g)) →
  LX E zpe ⟨[1,3],[],[],[],[],true⟩ 1 ⟨[(1,.ptr 0 0),(3,.d (.i .i64 i))],[bxG g]⟩ Q:=by
 have hl:=hg.prods
 intro m
 induction m with
 | zero =>
  intro i hi he
  have hn:¬ ((i:Int) < g.prods.length):=by omega
  rw [List.drop_eq_nil_of_le (by omega)] at he
  refine zah ?_
  simp only [zab,simprocAttr,zaa,List.range'_one,zpe,zl0,hn,Qf]
  exact hyes he _ _
 | succ m ih =>
  intro i hi he
  have hy:(i:Int) < g.prods.length:=by omega
  have la:i < g.prods.length:=by omega
  have h0:(0:Int) ≤ i:=by omega
  have ga:(g.prods.map GProd.row)[i]?=some [.i .i64 g.prods[i].left,.l 2 (g.prods[i].right.map GSym.row),.l 10 (g.prods[i].rules.map GRule.row)]:=by rw [List.getElem?_map,Qd la]; rfl
  have w:IntKind.i64.wrap ((i:Int) + 1)=((i + 1:Nat):Int):=by rw [zda (by omega) (by omega)]; omega
  have hp:=hg.prod _ (List.getElem_mem la)
  have hap:=ha _ (List.getElem_mem la)
  have hr:=hp.right
  rw [List.drop_eq_getElem_cons la,List.all_cons] at he
  generalize g.prods[i]=p at *
  have hw:=z1d hg p (p.right.length + 1) 0
  refine zah ?_
  simp only [zab,simprocAttr,zaa,List.range'_one,zpe,zl0,eq_true hy,eq_true h0,ga,Qf,ofDs,Qb,Qc]
  refine z5j B K hg hp (i:=i) (p.right.length + 1) 0 0 (by omega) (by omega) (fun tm t1 t3 t4 t5=>?_)
  rw [Nat.zero_add] at t5
  by_cases hc:(zd6 g p).length=p.rules.length
  ·have hc':decide (¬ ((zfr g p 0 (p.right.length + 1)).length:Int)=(p.rules.length:Int))=false:=decide_eq_false (fun h=>h (by exact_mod_cast hc))
   have hc2:(((zfr g p 0 (p.right.length + 1)).length:Int) != (p.rules.length:Int))=false:=by
    rw [bne_eq_false_iff_eq]; exact_mod_cast hc
   simp only [zab,simprocAttr,zaa,List.range'_one,t1,t3,t4,t5,hc',hc2,Qf]
   refine z5l B K Z.e268 Z.e275 Z.e278 hv hg hp hap (i:=i) (fun hf tm hp' t2=>?_) (fun hf tm t1 t3=>?_) p.rules.length 0 (by omega) (fun j h h'=>by omega) (fun a b ha hb hab hb0=>by omega)
   ·have hb:zjy mv g p=false:=by simp only [zjy,hf,Bool.and_false]
    rw [hb,Bool.false_and] at he
    simp only [zab,simprocAttr,zaa,List.range'_one,t2]
    refine hno he _ _ ?_
    simp only [zab,simprocAttr,zaa,List.range'_one,t2]
   ·have hb:zjy mv g p=true:=by simp only [zjy,hf,Ql hc,Bool.and_self]
    rw [hb,Bool.true_and] at he
    simp only [zab,simprocAttr,zaa,List.range'_one,t1,t3,w]
    exact ⟨_,rfl,ih (i + 1) (by omega) he⟩
  ·have hc':decide (¬ ((zfr g p 0 (p.right.length + 1)).length:Int)=(p.rules.length:Int))=true:=Ql (fun h=>hc (by exact_mod_cast h))
   have hc2:(((zfr g p 0 (p.right.length + 1)).length:Int) != (p.rules.length:Int))=true:=by
    rw [bne_iff_ne]; intro h; exact hc (by exact_mod_cast h)
   have hb:zjy mv g p=false:=by simp only [zjy,decide_eq_false hc,Bool.false_and]
   rw [hb,Bool.false_and] at he
   simp only [zab,simprocAttr,zaa,List.range'_one,t1,t3,t4,t5,hc',hc2,Qf]
   refine hno he _ _ ?_
   simp only [zab,simprocAttr,zaa,List.range'_one]
theorem z1e (B:PE E)(K:KE E)(Z:DE E){mv:GVal→Bool}{P:GVal→Prop}(hv:∀ v:GVal,P v→lcall E 110 [v.arg] []=some (.d (.b (mv v)),[]))
  {g:Gram} (hg:g.Ok) (hs:g.Short) (ha:∀ p ∈ g.prods,∀ r ∈ p.rules,AllV P r.e):lcall E 402 [g.arg] []=some (.d (.b (z5m mv g)),[]):=by
 have c1:=z5e Z.e393 Z.e412 Z.e429 hg hs
 rw [Zea] at c1
 refine zaq K.e402 ?_
 unfold z5m
 cases hgm:zh0 g
 ·rw [hgm] at c1
  simp only [zab,simprocAttr,zaa,List.range'_one,zl0,c1]
 rw [hgm] at c1
 have hn:1 ≤ g.nts.length:=by
  simp only [zh0,Qi,Qh] at hgm
  omega
 obtain ⟨n,ns,hns⟩:∃ n ns,g.nts=n :: ns:=by
  cases h:g.nts with
  | nil=>rw [h] at hn; simp at hn
  | cons n ns=>exact ⟨n,ns,rfl⟩
 have gn:(g.nts.map GNt.row)[0]?=some [.s n.name,.l 1 (n.inh.map za2),.l 1 (n.syn.map za2)]:=by rw [hns]; rfl
 have hst:zlq g=n.inh.isEmpty:=by simp only [zlq,hns]
 rw [hst]
 by_cases hi:(n.inh.length:Int) > 0
 ·have he:n.inh.isEmpty=false:=by cases h:n.inh with | nil=>rw [h] at hi; simp at hi | cons=>rfl
  rw [he]
  simp only [zab,simprocAttr,zaa,List.range'_one,zl0,c1,gn,eq_true hi,Qf]
 ·have he:n.inh.isEmpty=true:=by cases h:n.inh with | nil=>rfl | cons=>rw [h] at hi; simp at hi
  rw [he]
  simp only [zab,simprocAttr,zaa,List.range'_one,zl0,c1,gn,hi,Qf]
  refine z5n B K Z hv hg ha (fun hf tm hp t2=>?_) (fun hf tm hp=>?_) g.prods.length 0 (by omega) (by rw [List.drop_zero])
  ·rw [hf]
   simp only [zab,simprocAttr,zaa,List.range'_one,t2]
  ·rw [hf]
   simp only [zab,simprocAttr,zaa,List.range'_one]
open Go
def Za5:CCode:=match zrf.body with
 | .seq _ (.seq _ (.seq _ (.seq (.seq _ (.block _ (.loop _ c))) _)))=>c
 | _=>.skip
def Zmg:CCode:=match Za5 with
 | .seq _ (.seq (.block _ (.seq _ (.seq _ (.seq _ (.block _ (.loop _ c)))))) _)=>c
 | _=>.skip
theorem Zmh {g:Gram}{r:GRule}{k i:Nat}{xs:List (Int × Int)}{Q:Ex→St→Prop}(hx:xs.length ≤ 100000):∀ (m j:Nat) (out:List ((Int × Int) × (Int × Int))),j + m=xs.length→out.length + m ≤ 1000000 →
  (∀ tm,za1 tm 1 = .d (.i .i64 k)→za1 tm 2 = .ptr 0 0→za1 tm 5 = .own 1 0 4 ((out++(xs.drop j).map fun x=>(x,r.at_)).map zcx)→za1 tm 6 = .d (.i .i64 i)→Q (.exit 2) ⟨tm,[bxG g,some (.tok 0 4),bxR r]⟩) →
  LX E Zmg ⟨[1,2,5,6,7,8,9],[5],[],[],[],true⟩ 3 ⟨[(1,.d (.i .i64 k)),(2,.ptr 0 0),(5,.own 1 0 4 (out.map zcx)),(6,.d (.i .i64 i)),(7,.ptr 2 0),(8,.d (.l 2 (xs.map zaz))),(9,.d (.i .i64 j))],[bxG g,some (.tok 0 4),bxR r]⟩ Q:=by
 intro m
 induction m with
 | zero =>
  intro j out hj ho hQ
  have hn:¬ ((j:Int) < xs.length):=by omega
  rw [List.drop_eq_nil_of_le (by omega)] at hQ
  simp only [Qc,List.append_nil] at hQ
  refine zah ?_
  simp only [zab,simprocAttr,zaa,List.range'_one,Zmg,Za5,zrf,hn,Qf]
  exact hQ _ rfl rfl rfl rfl
 | succ m ih =>
  intro j out hj ho hQ
  have hy:(j:Int) < xs.length:=by omega
  have la:j < xs.length:=by omega
  have h0:(0:Int) ≤ j:=by omega
  have ga:(xs.map zaz)[j]?=some [.i .i64 (xs[j]).1,.i .i64 (xs[j]).2]:=by rw [List.getElem?_map,Qd la]; rfl
  have w:IntKind.i64.wrap ((j:Int) + 1)=((j + 1:Nat):Int):=by rw [zda (by omega) (by omega)]; omega
  have r2:za4 (out.length + 1) 32=true:=by unfold za4; exact Ql (by omega)
  rw [List.drop_eq_getElem_cons la] at hQ
  generalize xs[j]=x at *
  have ih':=ih (j + 1) (out++[(x,r.at_)]) (by omega) (by simp; omega) (fun tm k1 k2 k3 k4=>hQ tm k1 k2 (by rw [k3]; simp) k4)
  simp only [List.map_append,Qb,Qc] at ih'
  refine zah ?_
  simp only [zab,simprocAttr,zaa,List.range'_one,Zmg,Za5,zrf,eq_true hy,eq_true h0,ga,r2,w,Qf]
  exact ⟨by rfl,_,rfl,ih'⟩
theorem Zed (H:HE E)(e411:E 411=some (.code zsf)){g:Gram}{k:Nat}{p:GProd}(gk:(g.prods.map GProd.row)[k]?=some [.i .i64 p.left,.l 2 (p.right.map GSym.row),.l 10 (p.rules.map GRule.row)])
  (hr:∀ r ∈ p.rules,Leafy r.e∧(zbo r.e).length ≤ 100) {Q:Ex→St→Prop} (hl:p.rules.length ≤ 1000):∀ (m i:Nat) (out:List ((Int × Int) × (Int × Int))),i + m=p.rules.length→out.length ≤ 100 * i →
  (∀ tm,za1 tm 5 = .own 1 0 4 ((out++zbm (p.rules.drop i)).map zcx)→Q (.exit 0) ⟨tm,[bxG g,some (.tok 0 4)]⟩) →
  LX E Za5 ⟨[1,2,5,6],[5],[],[],[],true⟩ 2 ⟨[(1,.d (.i .i64 k)),(2,.ptr 0 0),(5,.own 1 0 4 (out.map zcx)),(6,.d (.i .i64 i))],[bxG g,some (.tok 0 4)]⟩ Q:=by
 have k0:(0:Int) ≤ k:=by omega
 intro m
 induction m with
 | zero =>
  intro i out hi ho hQ
  have hn:¬ ((i:Int) < p.rules.length):=by omega
  rw [List.drop_eq_nil_of_le (by omega)] at hQ
  simp only [zbm,List.flatMap_nil,List.append_nil] at hQ
  refine zah ?_
  simp only [zab,simprocAttr,zaa,List.range'_one,Za5,zrf,hn,gk,eq_true k0,Qf]
  exact hQ _ rfl
 | succ m ih =>
  intro i out hi ho hQ
  have hy:(i:Int) < p.rules.length:=by omega
  have la:i < p.rules.length:=by omega
  have h0:(0:Int) ≤ i:=by omega
  have ga:(p.rules.map GRule.row)[i]?=some (p.rules[i]).row:=by rw [List.getElem?_map,Qd la]; rfl
  have w:IntKind.i64.wrap ((i:Int) + 1)=((i + 1:Nat):Int):=by rw [zda (by omega) (by omega)]; omega
  obtain ⟨hr1,hr2⟩:=hr _ (List.getElem_mem la)
  rw [List.drop_eq_getElem_cons la] at hQ
  generalize p.rules[i]=r at *
  have c1:=z45 H (sizeOf r.e + 1) r.e (by omega) hr1 (by omega)
  have c2:=z48 e411 (l:=zbo r.e) (by omega)
  have ol:=zl1 (zbo r.e) []
  simp only [List.length_nil,Nat.zero_add] at ol
  have hen:(zb4 r).length ≤ 100:=by simp only [zb4,Qf]; omega
  refine zah ?_
  simp only [zab,simprocAttr,zaa,List.range'_one,Za5,zrf,eq_true hy,eq_true h0,gk,eq_true k0,ga,GRule.row,c1,c2,Qf,ofDs,Qb,Qc]
  refine Zmh (k:=k) (i:=i) (r:=r) (xs:=zff [] (zbo r.e)) (by omega) (zff [] (zbo r.e)).length 0 out (by omega) (by omega) (fun tm k1 k2 k5 k6=>?_)
  rw [List.drop_zero] at k5
  have ih':=ih (i + 1) (out++zb4 r) (by omega) (by simp; omega) (fun tm k=>hQ tm (by rw [k]; simp [zbm]))
  simp only [zb4] at ih'
  simp only [zab,simprocAttr,zaa,List.range'_one,k1,k2,k5,k6,w]
  exact ⟨_,rfl,ih'⟩
theorem z1f (H:HE E)(e411:E 411=some (.code zsf))(e666:E 666=some (.code zrf)){g:Gram}(hg:g.Ok)(cm:lcall E 402 [g.arg] []=some (.d (.b true),[])){k:Nat}(hk:k < g.prods.length)(hr:∀ r ∈ (g.prods[k]).rules,Leafy r.e∧(zbo r.e).length ≤ 100) :
  lcall E 666 [g.arg,.d (.i .i64 k)] []=some (.d (.l 4 ((zbm (g.prods[k]).rules).map zcx)),[]):=by
 have hp:=hg.prods
 have hrl:=(hg.prod _ (List.getElem_mem hk)).rules
 have g0:¬ (k:Int) < 0:=by omega
 have g1:¬ (k:Int) ≥ (g.prods.length:Int):=by omega
 have ga:(g.prods.map GProd.row)[k]?=some [.i .i64 (g.prods[k]).left,.l 2 ((g.prods[k]).right.map GSym.row),.l 10 ((g.prods[k]).rules.map GRule.row)]:=by rw [List.getElem?_map,Qd hk]; rfl
 generalize g.prods[k]=p at *
 refine zaq e666 ?_
 simp only [zab,simprocAttr,zaa,List.range'_one,zrf,cm,g0,g1,Qf]
 have h1:([]:List (List D))=([]:List ((Int × Int) × (Int × Int))).map zcx:=rfl
 rw [h1]
 refine Zed H e411 ga hr hrl p.rules.length 0 [] (by omega) (by simp) (fun tm k1=>?_)
 rw [List.drop_zero,List.nil_append] at k1
 simp only [zab,simprocAttr,zaa,List.range'_one,k1]
theorem zsg (e666:E 666=some (.code zrf))(g:Gram){k:Int}(hk:k < 0 ∨ k ≥ (g.prods.length:Int)):lcall E 666 [g.arg,.d (.i .i64 k)] []=some (.d (.l 4 []),[]):=by
 refine zaq e666 ?_
 by_cases h0:k < 0
 ·simp only [zab,simprocAttr,zaa,List.range'_one,zrf,eq_true h0,Qf]
 ·have h1:k ≥ (g.prods.length:Int):=by omega
  simp only [zab,simprocAttr,zaa,List.range'_one,zrf,h0,eq_true h1,Qf]
theorem zv9 (H:HE E){g:Gram}{b:Bool}(cm:lcall E 169 [g.arg] []=some (.d (.b b),[])){k:Int}(hk:k < 0 ∨ k ≥ (g.prods.length:Int)):lcall E 172 [g.arg,.d (.i .i64 k)] []=some (.d (.l 4 []),[]):=by
 refine zaq H.e172 ?_
 cases b
 ·by_cases h0:k < 0
  ·simp only [zab,simprocAttr,zaa,List.range'_one,zxw,Zfg,cm,eq_true h0,Qf]
  ·by_cases h1:k ≥ (g.prods.length:Int)
   ·simp only [zab,simprocAttr,zaa,List.range'_one,zxw,Zfg,cm,h0,eq_true h1,Qf]
   ·omega
 ·by_cases h0:k < 0
  ·simp only [zab,simprocAttr,zaa,List.range'_one,zxw,Zfg,cm,eq_true h0,Qf]
  ·have h1:k ≥ (g.prods.length:Int):=by omega
   simp only [zab,simprocAttr,zaa,List.range'_one,zxw,Zfg,cm,h0,eq_true h1,Qf]
open Go
theorem z1g (e113:E 113=some (.code z28)){v:GVal}(h:zn4 v):lcall E 113 [v.arg] []=some (.d (.i .i64 1),[]):=by
 obtain ⟨h1,h2,h3⟩:=h
 have q:(0:Int).tdiv 16=0:=rfl
 have z:((0:Nat):Int)=0:=rfl
 have w1:IntKind.i64.wrap 1=1:=rfl
 have w0:IntKind.i64.wrap 0=0:=rfl
 refine zaq e113 ?_
 simp only [zab,simprocAttr,zaa,List.range'_one,z28,h2,h3,List.length_nil,zb7,Qc,z,q,w0,w1,Int.reduceAdd]
 refine zah ?_
 simp only [zab,simprocAttr,zaa,List.range'_one,z28,Int.lt_irrefl,List.length_nil,z]
theorem zwa (e110:E 110=some (.code z42))(e113:E 113=some (.code z28)){v:GVal}(h:zn4 v):lcall E 110 [v.arg] []=some (.d (.b true),[]):=by
 have c1:=z1g e113 h
 obtain ⟨h1,h2,h3⟩:=h
 have z:((0:Nat):Int)=0:=rfl
 simp only [GVal.arg,h1,h2,h3,zb7,Qc] at c1
 refine zaq e110 ?_
 simp only [zab,simprocAttr,zaa,List.range'_one,z42,c1,h1,h2,h3,List.length_nil,zb7,Qc,z]
 refine zah ?_
 simp only [zab,simprocAttr,zaa,List.range'_one,z42,h1,Int.lt_irrefl,List.length_nil,z]
open Go
theorem zl2 {g:Gram}{p:GProd}{o:Int}{x:Int × Int}:∀ (n a:Nat),x ∈ zem g p o a n ↔ x.1=o∧(a:Int) ≤ x.2∧x.2 < ((a + n:Nat):Int)∧ze2 g p x=true
 | 0,a=>by
  simp only [zem,List.not_mem_nil,false_iff]
  omega
 | n + 1,a=>by
  simp only [zem,List.mem_append,zl2 n (a + 1)]
  constructor
  ·rintro (h | ⟨h1,h2,h3,h4⟩)
   ·split at h
    ·rename_i hw
     simp only [List.mem_singleton] at h
     subst h
     exact ⟨rfl,by simp,by simp; omega,hw⟩
    ·simp at h
   ·exact ⟨h1,by omega,by omega,h4⟩
  ·rintro ⟨h1,h2,h3,h4⟩
   by_cases e:x.2=(a:Int)
   ·left
    have hx:x=(o,(a:Int)):=Prod.ext h1 e
    rw [hx] at h4
    rw [if_pos h4,hx]
    exact List.mem_singleton_self _
   ·right
    exact ⟨h1,by omega,by omega,h4⟩
theorem zqj {g:Gram}{p:GProd}{x:Int × Int}:∀ (n o:Nat),x ∈ zfr g p o n ↔ (o:Int) ≤ x.1∧x.1 < ((o + n:Nat):Int)∧0 ≤ x.2∧x.2 < za7 g (zcn p x.1).1∧ze2 g p x=true
 | 0,o=>by
  simp only [zfr,List.not_mem_nil,false_iff]
  omega
 | n + 1,o=>by
  simp only [zfr,List.mem_append,zl2,zqj n (o + 1)]
  constructor
  ·rintro (⟨h1,h2,h3,h4⟩ | ⟨h1,h2,h3,h4,h5⟩)
   ·rw [← h1] at h3
    exact ⟨by omega,by omega,by omega,by omega,h4⟩
   ·exact ⟨by omega,by omega,h3,h4,h5⟩
  ·rintro ⟨h1,h2,h3,h4,h5⟩
   by_cases e:x.1=(o:Int)
   ·left
    rw [← e]
    exact ⟨rfl,by omega,by omega,h5⟩
   ·right
    exact ⟨by omega,by omega,h3,h4,h5⟩
theorem zsh {g:Gram}{p:GProd}{x:Int × Int}:x ∈ zd6 g p ↔ z7f g p x=true:=by
 unfold zd6
 rw [zqj]
 simp only [ze2,z7f,inF,Qi,Qh,Bool.not_eq_true',Bool.and_eq_false_iff,decide_eq_false_iff_not]
 constructor
 ·rintro ⟨h1,h2,h3,h4,h5,h6⟩
  refine ⟨h5,h3,h4, ?_⟩
  rcases h6 with h | h | h | h
  ·rw [h5] at h; cases h
  ·exact absurd h3 h
  ·exact absurd h4 h
  ·exact h
 ·rintro ⟨h1,h2,h3,h4⟩
  refine ⟨?_, ?_,h2,h3,h1,.inr (.inr (.inr h4))⟩
  ·unfold zcn at h1
   split at h1
   ·omega
   ·split at h1
    ·cases h1
    ·omega
  ·unfold zcn at h1
   split at h1
   ·omega
   ·split at h1
    ·cases h1
    ·omega
theorem zkq {g:Gram}{p:GProd}{o:Int}:∀ (n a:Nat),(zem g p o a n).Nodup
 | 0,_=>List.nodup_nil
 | n + 1,a=>by
  simp only [zem]
  split
  ·rw [List.singleton_append,List.nodup_cons]
   refine ⟨fun h=>?_,zkq n (a + 1)⟩
   have:=(zl2 n (a + 1)).1 h
   simp at this
   omega
  ·exact zkq n (a + 1)
theorem zpf {g:Gram}{p:GProd}:∀ (n o:Nat),(zfr g p o n).Nodup
 | 0,_=>List.nodup_nil
 | n + 1,o=>by
  simp only [zfr]
  rw [List.nodup_append]
  refine ⟨zkq _ _,zpf n (o + 1),fun x hx y hy e=>?_⟩
  subst e
  have h1:=(zl2 _ _).1 hx
  have h2:=(zqj _ _).1 hy
  omega
theorem zuj {g:Gram}{p:GProd}:(zd6 g p).Nodup:=zpf _ _
def zx0 (mv:GVal→Bool)(g:Gram)(p:GProd)(r:GRule):Bool:=zk3 mv r.e 12 && zew p r.e && !(zbo r.e).any fun x=>!inF g p x
theorem zx1 (mv:GVal→Bool)(g:Gram)(p:GProd)(l:List (Int × Int))(r:GRule):zfz mv g p l r=(decide (r.at_ ∈ l) && zx0 mv g p r):=by
 unfold zfz ztf zx0
 simp only [Bool.and_assoc]
theorem zpg {mv:GVal→Bool}{g:Gram}{p:GProd}:∀ (rs:List GRule) (l:List (Int × Int)),l.Nodup →
  (((zcf mv g p rs l).1=true∧(zcf mv g p rs l).2=[]) ↔ (l.length=rs.length∧(∀ r ∈ rs,r.at_ ∈ l∧zx0 mv g p r=true)∧(rs.map GRule.at_).Nodup))
 | [],l,_=>by
  simp only [zcf,true_and,List.length_nil,List.not_mem_nil,false_imp_iff,implies_true,Qc,List.nodup_nil,and_true]
  exact List.length_eq_zero_iff.symm
 | r :: rs,l,hl=>by
  simp only [zcf,zx1]
  by_cases hm:r.at_ ∈ l
  ·cases hg:zx0 mv g p r
   ·simp only [Bool.and_false,Qm,if_false,false_and,false_iff,not_and]
    intro _ h
    have:=(h r List.mem_cons_self).2
    rw [hg] at this; cases this
   ·simp only [Ql hm,Bool.and_self,if_true]
    rw [zpg rs (l.erase r.at_) (hl.erase _)]
    have hlen:=List.length_erase_of_mem hm
    have hpos:0 < l.length:=List.length_pos_of_mem hm
    simp only [List.length_cons,Qb,List.nodup_cons,hl.mem_erase_iff]
    constructor
    ·rintro ⟨h1,h2,h3⟩
     refine ⟨by omega,fun x hx=>?_,fun hx=>?_,h3⟩
     ·rcases List.mem_cons.1 hx with rfl | hx
      ·exact ⟨hm,hg⟩
      ·exact ⟨(h2 x hx).1.2,(h2 x hx).2⟩
     ·obtain ⟨x,hx,e⟩:=List.mem_map.1 hx
      exact (h2 x hx).1.1 e
    ·rintro ⟨h1,h2,h3,h4⟩
     refine ⟨by omega,fun x hx=>⟨⟨fun e=>h3 (e ▸ List.mem_map.2 ⟨x,hx,rfl⟩),(h2 x (List.mem_cons_of_mem _ hx)).1⟩,(h2 x (List.mem_cons_of_mem _ hx)).2⟩,h4⟩
  ·simp only [decide_eq_false hm,Bool.false_and,Qm,if_false,false_and,false_iff,not_and]
   intro _ h
   exact absurd (h r List.mem_cons_self).1 hm
theorem z9u {g:Gram}{p:GProd}(a b:List (Int × Int)):(!(a++b).any fun x=>!inF g p x)=((!a.any fun x=>!inF g p x) && !b.any fun x=>!inF g p x):=by
 rw [List.any_append,Bool.not_or]
theorem z1h {mv:GVal→Bool}{g:Gram}{p:GProd}:∀ (n:Nat) (e:Exp) (d:Int),sizeOf e < n→zk3 mv e d=true→(zew p e && !(zbo e).any fun x=>!inF g p x)=z06 g p e:=by
 intro n
 induction n with
 | zero=>intro e d hs; omega
 | succ n ih =>
  intro e d hs hm
  rw [zuz] at hm
  simp only [Qi,Bool.or_eq_true,Qh,Bool.not_eq_true',decide_eq_false_iff_not] at hm
  obtain ⟨_,_,h3,_,_,h6⟩:=hm
  rw [ztc,zke,z07]
  have noargs:za3 e.op=0→e.args=[]:=fun h=>by
   rw [h] at h3
   rcases h3 with h | h
   ·omega
   ·exact List.length_eq_zero_iff.1 (by omega)
  by_cases h1:e.op=1
  ·have ha:=noargs (by rw [h1]; rfl)
   simp only [ha,h1,if_true,za8,List.append_nil,zdk,zbw,Bool.and_true,List.any_cons,List.any_nil,Bool.or_false,Bool.not_not]
   simp
  ·by_cases h2:e.op=2 ∨ e.op=3
   ·have ha:=noargs (by rcases h2 with h | h <;> rw [h] <;> rfl)
    simp only [ha,h1,if_false,if_pos h2,za8,List.append_nil,zdk,Bool.and_true,List.any_nil,Bool.not_false]
   ·have hb:zbw p e.op e.occ=false:=by
     have h2':¬ e.op=2:=fun h=>h2 (.inl h)
     have h3':¬ e.op=3:=fun h=>h2 (.inr h)
     simp [zbw,h2',h3']
    simp only [h1,if_false,if_neg h2,hb,Bool.not_false,Bool.true_and,List.nil_append]
    have go:∀ l:List Exp,(∀ x ∈ l,sizeOf x < n)→zev mv l (d - 1)=true→(zdk p l && !(za8 l).any fun x=>!inF g p x)=zh6 g p l:=by
     intro l
     induction l with
     | nil=>intro _ _; rfl
     | cons x l ihl =>
      intro hx hm
      simp only [zev,Qi] at hm
      have e1:=ih x (d - 1) (hx x List.mem_cons_self) hm.1
      have e2:=ihl (fun y hy=>hx y (List.mem_cons_of_mem _ hy)) hm.2
      simp only [zdk,za8,zh6,z9u,← e1,← e2]
      cases zew p x <;> cases zdk p l <;> simp
    exact go e.args (fun x hx=>by have:=zlp hx; omega) h6
theorem zwb (mv:GVal→Bool)(g:Gram)(p:GProd)(r:GRule):zx0 mv g p r=(zk3 mv r.e 12 && z06 g p r.e):=by
 unfold zx0
 cases hm:zk3 mv r.e 12
 ·rfl
 ·rw [← z1h (g:=g) (p:=p) (sizeOf r.e + 1) r.e 12 (by omega) hm]
  simp only [Bool.true_and]
theorem z5o (mv:GVal→Bool)(g:Gram)(p:GProd):zjy mv g p=zk5 mv g p:=by
 rw [Bool.eq_iff_iff]
 unfold zk5 zjy zjx
 simp only [Qi,Qh,List.isEmpty_iff,List.all_eq_true]
 rw [zpg p.rules (zd6 g p) zuj]
 constructor
 ·rintro ⟨h1,h2,h3⟩
  refine ⟨h1,fun r hr=>?_,h3⟩
  have:=h2 r hr
  simp only [zg6,Qi] at this
  exact ⟨zsh.2 this.1,by rw [zwb,this.2.1,this.2.2]; rfl⟩
 ·rintro ⟨h1,h2,h3⟩
  refine ⟨h1,fun r hr=>?_,h3⟩
  obtain ⟨a,b⟩:=h2 r hr
  rw [zwb] at b
  simp only [zg6,zsh.1 a,b,Bool.and_self]
theorem zwc (mv:GVal→Bool)(g:Gram):z5m mv g=ztg mv g:=by
 unfold z5m ztg
 have:∀ l:List GProd,l.all (zjy mv g) = !l.any fun p=>!zk5 mv g p:=by
  intro l
  induction l with
  | nil=>rfl
  | cons x l ih=>simp only [List.all_cons,List.any_cons,ih,z5o,Bool.not_or,Bool.not_not]
 rw [this]
open Go
def z5p:CCode:=match zv2.body with
 | .seq _ (.seq _ (.seq _ (.seq _ (.seq (.seq _ (.block _ (.loop _ c))) _))))=>c
 | _=>.skip
def z9v:CCode:=match z5p with
 | .seq _ (.seq (.block _ (.seq _ (.block _ (.loop _ c)))) _)=>c
 | _=>.skip
def Zmi:CCode:=match z9v with
 | .seq _ (.seq (.block _ (.seq _ (.seq _ (.seq _ (.seq _ (.seq _ (.block _ (.loop _ c)))))))) _)=>c
 | _=>.skip
theorem z9w (e:Edge):zb8 [.i,.i,.i,.i] [.i .i64 e.1.1,.i .i64 e.1.2,.i .i64 e.2.1,.i .i64 e.2.2] [.i .i64 e.1.1,.i .i64 e.1.2,.i .i64 e.2.1,.i .i64 e.2.2]=some true:=by simp [zb8,eqD]
abbrev hL (l:List UInt8)(n:Nat):List (Option Obj):=[pk l n,none,none,none,none,none,none,none,some (.tok 0 3)]
theorem Zee {l:List UInt8}{n:Nat}{es:List Edge}(hl:es.length ≤ 1000000){v2 v8 v9:D}{v7:List (List D)}{Q:Ex→St→Prop}(hQ:∀ tm,za1 tm 2 = .d v2→za1 tm 7 = .own 8 0 3 v7→za1 tm 8 = .d v8→za1 tm 9 = .d v9→Q (.exit 4) ⟨tm,hL l n⟩):∀ (m j:Nat),j + m=es.length →
  LX E Zmi ⟨[2,7,8,9,11,12,13],[],[],[],[],true⟩ 9 ⟨[(2,.d v2),(7,.own 8 0 3 v7),(8,.d v8),(9,.d v9),(11,.d (.l 4 (es.map zcx))),(12,.d (.l 4 (es.map zcx))),(13,.d (.i .i64 j))],hL l n⟩ Q:=by
 intro m
 induction m with
 | zero =>
  intro j hj
  have hn:¬ ((j:Int) < es.length):=by omega
  refine zah ?_
  simp only [zab,simprocAttr,zaa,List.range'_one,Zmi,z9v,z5p,zv2,hn,Qf]
  exact hQ _ rfl rfl rfl rfl
 | succ m ih =>
  intro j hj
  have hy:(j:Int) < es.length:=by omega
  have la:j < es.length:=by omega
  have h0:(0:Int) ≤ j:=by omega
  have ga:(es.map zcx)[j]?=some [.i .i64 es[j].1.1,.i .i64 es[j].1.2,.i .i64 es[j].2.1,.i .i64 es[j].2.2]:=by rw [List.getElem?_map,Qd la]; rfl
  have w:IntKind.i64.wrap ((j:Int) + 1)=((j + 1:Nat):Int):=by rw [zda (by omega) (by omega)]; omega
  have q:=z9w es[j]
  generalize es[j]=x at *
  refine zah ?_
  simp only [zab,simprocAttr,zaa,List.range'_one,Zmi,z9v,z5p,zv2,eq_true hy,eq_true h0,ga,q,w,Qf]
  exact ⟨by rfl,_,rfl,ih (j + 1) (by omega)⟩
def zod (E:Nat→Option Fn)(g:Gram):Prop:=∀ k:Int,∃ es:List Edge,es.length ≤ 1000000∧lcall E 172 [g.arg,.d (.i .i64 k)] []=some (.d (.l 4 (es.map zcx)),[])∧lcall E 666 [g.arg,.d (.i .i64 k)] []=some (.d (.l 4 (es.map zcx)),[])
theorem Zef {l:List UInt8}{n:Nat}{gs:List Gram}{i:Nat}{g:Gram}(gi:(gs.map Gram.row)[i]?=some [.l 3 (g.toks.map GTok.row),.l 3 (g.nts.map GNt.row),.l 3 (g.prods.map GProd.row)])(ha:zod E g)(hp:g.prods.length ≤ 1000){p:Int}{Q:Ex→St→Prop}
  (hQ:∀ tm,za1 tm 2 = .d (.i .i64 p)→za1 tm 7 = .own 8 0 3 (gs.map Gram.row)→za1 tm 8 = .d (.i .i64 i)→Q (.exit 2) ⟨tm,hL l n⟩):∀ (m:Nat) (k:Int), -1 ≤ k→k + m=g.prods.length + 1 →
  LX E z9v ⟨[2,7,8,9],[],[],[],[],true⟩ 9 ⟨[(2,.d (.i .i64 p)),(7,.own 8 0 3 (gs.map Gram.row)),(8,.d (.i .i64 i)),(9,.d (.i .i64 k))],hL l n⟩ Q:=by
 have i0:(0:Int) ≤ i:=by omega
 have wl:IntKind.i64.wrap ((g.prods.length:Int) + 1)=(g.prods.length:Int) + 1:=zda (by omega) (by omega)
 intro m
 induction m with
 | zero =>
  intro k k1 hk
  have hn:¬ (k < (g.prods.length:Int) + 1):=by omega
  refine zah ?_
  simp only [zab,simprocAttr,zaa,List.range'_one,z9v,z5p,zv2,gi,eq_true i0,wl,hn,Qf]
  exact hQ _ rfl rfl rfl
 | succ m ih =>
  intro k k1 hk
  have hy:k < (g.prods.length:Int) + 1:=by omega
  have w:IntKind.i64.wrap (k + 1)=k + 1:=zda (by omega) (by omega)
  refine zah ?_
  by_cases hk0:k < 0
  ·obtain ⟨es,e1,e2,e3⟩:=ha p
   have ne:¬ ((es.length:Int) ≠ (es.length:Int)):=by omega
   simp only [zab,simprocAttr,zaa,List.range'_one,z9v,z5p,zv2,gi,eq_true i0,wl,eq_true hy,eq_true hk0,Qf,ofDs,Qb,Qc,e2,e3,ne_eq,ne]
   refine ⟨by rfl,Zee e1 (fun tm t2 t7 t8 t9=>?_) es.length 0 (by omega)⟩
   simp only [zab,simprocAttr,zaa,List.range'_one,t2,t7,t8,t9,w]
   exact ⟨_,rfl,ih (k + 1) (by omega) (by omega)⟩
  ·obtain ⟨es,e1,e2,e3⟩:=ha k
   have ne:¬ ((es.length:Int) ≠ (es.length:Int)):=by omega
   simp only [zab,simprocAttr,zaa,List.range'_one,z9v,z5p,zv2,gi,eq_true i0,wl,eq_true hy,hk0,Qf,ofDs,Qb,Qc,e2,e3,ne_eq,ne]
   refine ⟨by rfl,Zee e1 (fun tm t2 t7 t8 t9=>?_) es.length 0 (by omega)⟩
   simp only [zab,simprocAttr,zaa,List.range'_one,t2,t7,t8,t9,w]
   exact ⟨_,rfl,ih (k + 1) (by omega) (by omega)⟩
open Go
theorem zm7 {l:List (List UInt8)}(h:zgq l=true):∀ s ∈ l,s.length ≤ 1000000:=fun s hs=>by
 simp only [zgq,Qi,Bool.not_eq_true',List.any_eq_false,Bool.not_eq_true] at h
 have:=h.2 s hs
 simp only [zfj,Bool.not_eq_false,Qi,Qh] at this
 omega
theorem zwd {g:Gram}(h:zh0 g=true):g.Short:=by
 simp only [zh0,Qi,Bool.not_eq_true'] at h
 obtain ⟨_,_,_,hb,hn,_⟩:=h
 have hn:=zm7 hn
 refine ⟨fun t ht=>hn _ (List.mem_append_left _ (List.mem_map.2 ⟨t,ht,rfl⟩)),fun n h=>hn _ (List.mem_append_right _ (List.mem_map.2 ⟨n,h,rfl⟩)),fun n h=>?_⟩
 rw [List.any_eq_false] at hb
 have:=hb n h
 simp only [zhz,Bool.not_eq_true,Bool.or_eq_false_iff,Bool.not_eq_false'] at this
 exact zm7 this.2
theorem zwe (A:AE E)(H:HE E)(e411:E 411=some (.code zsf))(e666:E 666=some (.code zrf)){P:GVal→Prop}{g:Gram}(hg:g.Ok)(cm:lcall E 169 [g.arg] []=some (.d (.b true),[]))(cd:lcall E 402 [g.arg] []=some (.d (.b true),[]))
  (hr:∀ p ∈ g.prods,∀ r ∈ p.rules,AllV P r.e∧Leafy r.e∧(zbo r.e).length ≤ 100):zod E g:=fun k=>by
 by_cases hk:k < 0 ∨ k ≥ (g.prods.length:Int)
 ·exact ⟨[],by simp,by rw [zv9 H cm hk]; rfl,by rw [zsg e666 g hk]; rfl⟩
 ·obtain ⟨n,rfl⟩:=Int.eq_ofNat_of_zero_le (show 0 ≤ k by omega)
  have hn:n < g.prods.length:=by omega
  have hp:=List.getElem_mem hn
  have hrl:=(hg.prod _ hp).rules
  have hlen:=z05 (rs:=(g.prods[n]).rules) (fun r h=>(hr _ hp r h).2.2)
  refine ⟨zbm (g.prods[n]).rules,by omega,z44 A H (P:=P) hg cm hn (fun r h=>⟨(hr _ hp r h).1,(hr _ hp r h).2.2⟩),z1f H e411 e666 hg cd hn (fun r h=>⟨(hr _ hp r h).2.1,(hr _ hp r h).2.2⟩)⟩
theorem zx2 (A:AE E)(B:PE E)(H:HE E)(K:KE E)(Z:DE E)(e411:E 411=some (.code zsf))(e666:E 666=some (.code zrf))(e110:E 110=some (.code z42))(e113:E 113=some (.code z28)){g:Gram}(hg:MadeG g):zod E g:=by
 have cm:=zu3 A (mv:=mt) (P:=zn4) (fun v hv=>zu0 A hv) hg.ok (fun p hp=>hg.good hp)
 have cd:=z1e B K Z (mv:=mt) (P:=zn4) (fun v hv=>zwa e110 e113 hv) hg.ok (zwd hg.gmay) (fun p hp r hr=>(hg.rule hp hr).all)
 rw [zwc,hg.amay] at cd
 rw [hg.amay] at cm
 refine zwe A H e411 e666 (P:=zn4) hg.ok cm cd (fun p hp r hr=>⟨(hg.rule hp hr).all,(hg.leafy hp r hr).1,by have:=(hg.rule hp hr).few; omega⟩)
def noG:Gram:=⟨[],[],[]⟩
theorem zx3 (A:AE E)(H:HE E)(e666:E 666=some (.code zrf)):zod E noG:=fun k=>by
 have ok:noG.Ok:=⟨by simp [noG],by simp [noG],by simp [noG],by simp [noG],by simp [noG]⟩
 have cm:=zu3 A (mv:=mt) (P:=zn4) (fun v hv=>zu0 A hv) (g:=noG) ok (by simp [noG])
 have hk:k < 0 ∨ k ≥ (noG.prods.length:Int):=by simp [noG]; omega
 exact ⟨[],by simp,by rw [zv9 H cm hk]; rfl,by rw [zsg e666 noG hk]; rfl⟩
theorem Zeg {l:List UInt8}{n:Nat}{g0 g1 g2:Gram}(a0:zod E g0)(a1:zod E g1)(a2:zod E g2)(p0:g0.prods.length ≤ 1000)(p1:g1.prods.length ≤ 1000)(p2:g2.prods.length ≤ 1000){p:Int}{Q:Ex→St→Prop}
  (hQ:∀ tm,Q (.exit 0) ⟨tm,hL l n⟩):∀ (m i:Nat),i + m=3 →
  LX E z5p ⟨[2,7,8],[],[],[],[],true⟩ 9 ⟨[(2,.d (.i .i64 p)),(7,.own 8 0 3 ([g0,g1,g2].map Gram.row)),(8,.d (.i .i64 i))],hL l n⟩ Q:=by
 intro m
 induction m with
 | zero =>
  intro i hi
  have hn:¬ ((i:Int) < 3):=by omega
  refine zah ?_
  simp only [zab,simprocAttr,zaa,List.range'_one,z5p,zv2,hn]
  exact hQ _
 | succ m ih =>
  intro i hi
  have hy:(i:Int) < 3:=by omega
  have w:IntKind.i64.wrap ((i:Int) + 1)=((i + 1:Nat):Int):=by rw [zda (by omega) (by omega)]; omega
  have w1:IntKind.i64.wrap (-1) = -1:=rfl
  obtain ⟨g,gi,ha,hp⟩:∃ g:Gram,([g0,g1,g2].map Gram.row)[i]?=some [.l 3 (g.toks.map GTok.row),.l 3 (g.nts.map GNt.row),.l 3 (g.prods.map GProd.row)]∧zod E g∧g.prods.length ≤ 1000:=by
   have:i=0 ∨ i=1 ∨ i=2:=by omega
   rcases this with rfl | rfl | rfl
   ·exact ⟨g0,rfl,a0,p0⟩
   ·exact ⟨g1,rfl,a1,p1⟩
   ·exact ⟨g2,rfl,a2,p2⟩
  refine zah ?_
  have mid:=fun Q' hQ'=>Zef (E:=E) (l:=l) (n:=n) (gs:=[g0,g1,g2]) (i:=i) gi ha hp (p:=p) (Q:=Q') hQ' (g.prods.length + 2) (-1) (by omega) (by omega)
  generalize [g0,g1,g2].map Gram.row=GS at *
  simp only [zab,simprocAttr,zaa,List.range'_one,z5p,zv2,eq_true hy,w1]
  refine mid _ (fun tm t2 t7 t8=>?_)
  simp only [zab,simprocAttr,zaa,List.range'_one,t2,t7,t8,w]
  exact ⟨_,rfl,ih (i + 1) (by omega)⟩
theorem z9x (A:AE E)(B:PE E)(H:HE E)(K:KE E)(Z:DE E)(e411:E 411=some (.code zsf))(e666:E 666=some (.code zrf))(e110:E 110=some (.code z42))(e113:E 113=some (.code z28))(e760:E 760=some (.code zv2))
  (hb:lcall E 171 [] []=some (.d (.b true),[])) {w:Nat} {gs:Gram} (hw:IntKind.i64.wrap (w:Int)=(w:Int)) {r:V} {h':List (Option Obj)} (hs:lcall E 170 [.d (.i .i64 w)] []=some (r,h')) (hset:zdy 0 r h'=some (gs.arg,[])) (as:zod E gs) (ps:gs.prods.length ≤ 1000) (l:List UInt8) (p:Int) :
  lcall E 760 [.d (.l 1 (zdu l)),.d (.i .u8 w),.d (.i .i64 p)] []=some (.d (.b true),[]):=by
 have hbl:=zh4 l
 rw [zo0] at hset
 refine zaq e760 ?_
 by_cases h200:(l.length:Int) > 200
 ·simp only [zab,simprocAttr,zaa,List.range'_one,zv2,hb,hbl,eq_true h200]
 have c1:=Zaj B l
 obtain ⟨x,c2,n',g,hn',hg,rfl⟩:=z23 B (l:=l) (by omega) (Nat.zero_le _)
 have c2':lcall E 168 [.ptr 0 0] [some (.box [.d (.l 1 (zdu l)),.d (.i .i64 0)])]=some (g.arg,[pk l n']):=c2
 have a0:=zx2 A B H K Z e411 e666 e110 e113 hg
 have a2:=zx3 A H e666
 have p1:=hg.p1
 simp only [zab,simprocAttr,zaa,List.range'_one,zv2,hb,hbl,h200,c1,c2',hw,hs,hset]
 refine Zeg (l:=l) (n:=n') a0 as a2 (by omega) ps (by simp [noG]) (p:=p) (fun tm=>?_) 3 0 (by omega)
 simp only [zab,simprocAttr,zaa,List.range'_one]
end Ab
