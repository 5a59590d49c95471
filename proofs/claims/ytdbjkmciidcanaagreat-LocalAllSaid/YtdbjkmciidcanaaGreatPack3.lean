/-
 A region's operations in any order that its edges let be: the whole of it.
-/
import Derived.Test.YtdbjkmciidcanaaGreatPack2
import Derived.Scope
import Derived.LoopNIn
import Derived.RangeFuncNested
import Derived.RangeFuncLeaves
import GoSem.ClaimChange
import Derived.ProofKit
import Derived.Carry
set_option linter.unusedSimpArgs false
set_option linter.unusedVariables false
set_option linter.unusedSectionVars false
set_option linter.unnecessarySimpa false
namespace Ab
open Go
open Go.RowKit (Below)
theorem zl3 {α β:Type}{F:Eff→(α→β)→(α→β)}{S:Nat→Bool}:∀ (es:List Eff) (i:Nat) (x:α→β),ap F es S (i + 1) x=ap F es (fun q=>S (q + 1)) i x
 | [],_,_=>rfl
 | e :: es,i,x=>by simp only [ap]; rw [zl3 es (i + 1)]
abbrev apG:=@ap Nat V Eff.getF
abbrev apO:=@ap Nat (Option Obj) Eff.objF
structure Facts (call:za0)(base j:Nat)(cs:List CO)(es:List Eff)(get0:Nat→V)(obj0:Nat→Option Obj):Prop where
 each:∀ k c,cs[k]?=some c→∃ e,es[k]?=some e∧e.dst=c.dst∧zuv call (apG es (fun q=>decide (q < k)) 0 get0) (apO es (fun q=>decide (q < k)) 0 obj0) c (base + j + zax (cs.take k))=some e ∧
  (∀ i,tO e i→i < base + j + zax (cs.take (k + 1)))∧e.fresh=base + j + zax (cs.take k)∧e.nws.length ≤ c.op.nmk
 len:es.length=cs.length
theorem zsi {call:za0}{base N:Nat}{s':St}:∀ (cs:List CO) (j:Nat) (s:St) (es:List Eff),zcd call base cs j s=some (s',es)→zma s base j N→j + zax cs=N →
  Facts call base j cs es s.get s.obj∧s'.get=apG es (fun _=>true) 0 s.get∧s'.obj=apO es (fun _=>true) 0 s.obj∧∀ q,N ≤ q→s'.obj (base + q)=none
 | [],j,s,es,h,hF,hn=>by
  simp only [zcd,Qa,Qj] at h
  obtain ⟨rfl,rfl⟩:=h
  refine ⟨⟨fun k c h=>by simp at h,rfl⟩,rfl,rfl,fun q hq=>hF.2 q ?_⟩
  simp only [zax] at hn
  omega
 | c :: cs,j,s,es,h,hF,hn=>by
  obtain ⟨e,es',he,hr',rfl⟩:=zn0 h
  rw [zek] at hn
  obtain ⟨f1,f2,f3⟩:=zs8 hF (by omega) he
  obtain ⟨⟨i1,i4⟩,i2,i3,i5⟩:=zsi cs _ (e.on s) es' hr' f3 (by omega)
  obtain ⟨m1,m2,m4,m3⟩:=z2d he
  refine ⟨⟨fun k c' hk=>?_,by simp [i4]⟩, ?_, ?_,i5⟩
  ·cases k with
   | zero =>
    simp only [List.getElem?_cons_zero,Qa] at hk
    subst hk
    have g0:∀ {β:Type} (F:Eff→(Nat→β)→(Nat→β)) (x:Nat→β),ap F (e :: es') (fun q=>decide (q < 0)) 0 x=x:=fun F x=>by
     simp only [ap,Nat.not_lt_zero,decide_false,Qm,if_false]
     have:∀ (es:List Eff) (i:Nat) (y:Nat→_),ap F es (fun q=>false) i y=y:=by
      intro es
      induction es with
      | nil=>intro i y; rfl
      | cons e es ih=>intro i y; simp only [ap,Qm,if_false]; exact ih (i + 1) y
     exact this _ _ _
    refine ⟨e,rfl,m3, ?_,fun i hi=>?_,by rw [m4]; simp [zax],m2⟩
    ·show zuv call (ap Eff.getF _ _ _ _) (ap Eff.objF _ _ _ _) _ _=_
     rw [g0,g0]
     simpa [zax] using he
    ·rcases hi with ⟨hw,hi⟩ | hi
     ·have:=m1 hw i hi
      rcases Qn i (base + j) with h | h
      ·omega
      ·obtain ⟨q,rfl⟩:∃ q,i=base + q:=⟨i - base,by omega⟩
       rw [hF.2 q (by omega)] at this; cases this
     ·obtain ⟨q,h2,h3⟩:=(zk2 e i).1 hi
      rw [m4] at h3
      simp only [List.take_succ_cons,List.take_zero,zax]
      omega
   | succ k =>
    rw [List.getElem?_cons_succ] at hk
    obtain ⟨e',n1,n2,n3,n4,n5,n6⟩:=i1 k c' hk
    have gs:∀ {β:Type} (F:Eff→(Nat→β)→(Nat→β)) (x:Nat→β),ap F (e :: es') (fun q=>decide (q < k + 1)) 0 x=ap F es' (fun q=>decide (q < k)) 0 (F e x):=fun F x=>by
     simp only [ap,Nat.zero_lt_succ,decide_true,if_true]
     rw [zl3]
     congr 1
     funext q
     simp
    have hcount:∀ m,base + (j + c.op.nmk) + zax (cs.take m)=base + j + zax ((c :: cs).take (m + 1)):=fun m=>by
     rw [List.take_succ_cons,zek]; omega
    refine ⟨e',by simpa using n1,n2, ?_,fun i hi=>?_,by rw [← hcount]; exact n5,n6⟩
    ·show zuv call (ap Eff.getF _ _ _ _) (ap Eff.objF _ _ _ _) _ _=_
     rw [gs,gs,← f1,← f2,← hcount]
     exact n3
    ·have:=n4 i hi
     rwa [hcount] at this
  ·rw [i2]
   show _=ap Eff.getF _ _ _ _
   simp only [ap,if_true]
   rw [zl3,f1]
  ·rw [i3]
   show _=ap Eff.objF _ _ _ _
   simp only [ap,if_true]
   rw [zl3,f2]
theorem zcz:∀ (cs:List CO) (i j:Nat),i ≤ j→zax (cs.take i) ≤ zax (cs.take j)
 | [],i,j,_=>by simp [zax]
 | c :: cs,0,j,_=>by simp [zax]
 | c :: cs,i + 1,0,h=>by omega
 | c :: cs,i + 1,j + 1,h=>by
  simp only [List.take_succ_cons,zek]
  have:=zcz cs i j (by omega)
  omega
theorem zd9:∀ {cs:List CO} {k:Nat} {c:CO},cs[k]?=some c→zax (cs.take (k + 1))=zax (cs.take k) + c.op.nmk
 | c' :: cs,0,c,h=>by simp only [List.getElem?_cons_zero,Qa] at h; subst h; simp [zax]
 | c' :: cs,k + 1,c,h=>by
  rw [List.getElem?_cons_succ] at h
  have:=zd9 h
  simp only [List.take_succ_cons,zek] at this ⊢
  omega
 | [],k,c,h=>by simp at h
section
variable {P:Program} {tab:Tab} {call:za0} {ds:List Deferred}
theorem zf9 {e e':Eff}(h:znj e e'=false)(i:Nat):¬ (i ∈ e.ids∧tO e' i)∧¬ (i ∈ e'.ids∧tO e i):=by
 unfold znj at h
 simp only [Bool.or_eq_false_iff,Bool.and_eq_false_iff] at h
 obtain ⟨⟨h1,h2⟩,h3⟩:=h
 have ov:i ∈ e.ids→i ∈ e'.ids→e.wr=false∧e'.wr=false:=fun a b=>by
  rcases h1 with h1 | h1
  ·exact h1
  ·exfalso
   have:=List.any_eq_false.1 h1 i a
   simp only [List.contains_iff_mem,b,not_true_eq_false] at this
 refine ⟨fun ⟨a,b⟩=>?_,fun ⟨a,b⟩=>?_⟩
 ·rcases b with ⟨b1,b2⟩ | b
  ·have:=(ov a b2).2; rw [b1] at this; cases this
  ·exact List.any_eq_false.1 h2 i a b
 ·rcases b with ⟨b1,b2⟩ | b
  ·have:=(ov b2 a).1; rw [b1] at this; cases this
  ·exact List.any_eq_false.1 h3 i a b
structure Setup (P:Program)(tab:Tab)(call:za0)(nt:Nat)(ops:Array Oper)(cs:List CO)(es:List Eff)(base:Nat)(get0:Nat→V)(obj0:Nat→Option Obj):Prop where
 comp:CompOps P tab nt ops ops.toList cs
 pre:∀ i c,cs[i]?=some c→c.pre=(zie ops.toList []).getD i 0
 slots:zkw cs 0=true
 edges:zi1 ops.toList 0=true
 race:zf3 cs es 0=true
 facts:Facts call base 0 cs es get0 obj0
 free:∀ q,obj0 (base + q)=none
def z1i (ops:Array Oper)(S:Nat→Bool):Prop:=∀ i o,S i=true→ops[i]?=some o→∀ e ∈ o.after,Region.binds .any e=true→S e.on=true
theorem Setup.sizes {nt:Nat}{ops:Array Oper}{cs:List CO}{es:List Eff}{base:Nat}{get0:Nat→V}{obj0:Nat→Option Obj}(hS:Setup P tab call nt ops cs es base get0 obj0):ops.size=cs.length:=by
 have:=hS.comp.get.1
 simpa using this
theorem Zeh {nt:Nat}{ops:Array Oper}{cs:List CO}{es:List Eff}{base:Nat}{get0:Nat→V}{obj0:Nat→Option Obj}(hS:Setup P tab call nt ops cs es base get0 obj0){S:Nat→Bool}(hcl:z1i ops S) :
  ∀ (n i:Nat),i < n→∀ o,ops[i]?=some o→(∀ e ∈ o.after,Region.binds .any e=true→S e.on=true)→∀ j,((zie ops.toList []).getD i 0).testBit j=true→S j=true:=by
 intro n
 induction n with
 | zero=>intro i hi; omega
 | succ n ih =>
  intro i hi o ho hready j hj
  have h2:=(zpv ops.toList []).2 i o (by simpa using ho) j (by simpa using hj)
  obtain ⟨e,he,hb,h⟩:=h2
  have hon:=hready e he hb
  rcases h with h | h
  ·rw [← h]; exact hon
  ·have hlt:=zi8 hS.edges (i:=i) (by simpa using ho) e he hb
   have hlt:e.on < i:=by simpa using hlt
   have hisz:i < ops.size:=(Array.getElem?_eq_some_iff.1 ho).1
   obtain ⟨o',ho'⟩:∃ o',ops[e.on]?=some o':=⟨ops[e.on]'(by omega),Array.getElem?_eq_getElem (by omega)⟩
   exact ih e.on (by omega) o' ho' (hcl e.on o' hon ho') j h
theorem z5q {nt:Nat}{ops:Array Oper}{cs:List CO}{es:List Eff}{base:Nat}{get0:Nat→V}{obj0:Nat→Option Obj}(hS:Setup P tab call nt ops cs es base get0 obj0){S:Nat→Bool}(hcl:z1i ops S)(hSn:∀ i,S i=true→i < ops.size){i:Nat}{c:CO}(hi:cs[i]?=some c){o:Oper}(ho:ops[i]?=some o)(hSi:S i=false)
  (hready:∀ e ∈ o.after,Region.binds .any e=true→S e.on=true) :
  ∃ e,es[i]?=some e∧zuv call (apG es S 0 get0) (apO es S 0 obj0) c (base + zax (cs.take i))=some e∧(∀ k,k < e.nws.length→apO es S 0 obj0 (base + zax (cs.take i) + k)=none)∧(∃ f,apO es S 0 obj0 f=none) ∧
   apG es (fun q=>S q || q == i) 0 get0=e.getF (apG es S 0 get0)∧apO es (fun q=>S q || q == i) 0 obj0=e.objF (apO es S 0 obj0):=by
 obtain ⟨e,h1,h2,h3,h4,h5,h6⟩:=hS.facts.each i c hi
 simp only [Nat.add_zero] at h3 h4 h5
 have hpre:∀ j,c.pre.testBit j=true→S j=true:=fun j hj=>Zeh hS hcl (i + 1) i (by omega) o ho hready j (by rw [← hS.pre i c hi]; exact hj)
 have hlater:∀ q c',i < q→cs[q]?=some c'→S q=true→c'.pre.testBit i=false:=fun q c' hq hc' hs=>by
  cases hb:c'.pre.testBit i with
  | false=>rfl
  | true =>
   have hqs:=hSn q hs
   have hoq:ops[q]?=some ops[q]:=Array.getElem?_eq_getElem hqs
   have:=Zeh hS hcl (q + 1) q (by omega) _ hoq (hcl q _ hs hoq) i (by rw [← hS.pre q c' hc']; exact hb)
   rw [hSi] at this; cases this
 have cof:∀ (q:Nat) (e':Eff),es[q]?=some e'→∃ c',cs[q]?=some c'∧e'.dst=c'.dst∧(∀ i,tO e' i→i < base + zax (cs.take (q + 1)))∧e'.fresh=base + zax (cs.take q)∧e'.nws.length ≤ c'.op.nmk:=fun q e' he'=>by
  have hl:=hS.facts.len
  have hq:q < cs.length:=by
   rcases Qn q es.length with h | h
   ·omega
   ·rw [Qe h] at he'; cases he'
  obtain ⟨e2,k1,k2,k3,k4,k5,k6⟩:=hS.facts.each q _ (Qd hq)
  rw [he'] at k1
  simp only [Qa] at k1
  subst k1
  simp only [Nat.add_zero] at k4 k5
  exact ⟨_,Qd hq,k2,k4,k5,k6⟩
 have apart1:∀ q e',es[q]?=some e'→S q ≠ decide (q < i)→(∀ t,t ∈ c.looks→¬ tG e' t)∧(∀ x,x ∈ e.ids→¬ tO e' x):=fun q e' he' hne=>by
  obtain ⟨c',k1,k2,k3,k4,k5⟩:=cof q e' he'
  rcases Nat.lt_trichotomy q i with hq | hq | hq
  ·have hsq:S q=false:=by
    cases hs:S q with
    | false=>rfl
    | true=>exfalso; apply hne; simp [hs,hq]
   have hb:c.pre.testBit q=false:=by
    cases hb:c.pre.testBit q with
    | false=>rfl
    | true=>have:=hpre q hb; rw [hsq] at this; cases this
   have hs:=zi7 cs 0 hS.slots q i c' c hq k1 hi
   have hr:=zhr cs es 0 hS.race q i c e' e hq hi he' h1
   simp only [Nat.zero_add,hb,Qm,false_or] at hs hr
   refine ⟨fun t ht hg=>?_,fun x hx hxo=>(zf9 hr x).2 ⟨hx,hxo⟩⟩
   unfold tG at hg
   rw [k2] at hg
   unfold zpn at hs
   simp only [hg,Qi,Bool.not_eq_true'] at hs
   have:=hs.1.1
   rw [List.contains_iff_mem.2 ht] at this; cases this
  ·exfalso; apply hne; subst hq; simp [hSi]
  ·have hsq:S q=true:=by
    cases hs:S q with
    | true=>rfl
    | false=>exfalso; apply hne; rw [hs]; simp; omega
   have hb:=hlater q c' hq k1 hsq
   have hs:=zi7 cs 0 hS.slots i q c c' hq hi k1
   have hr:=zhr cs es 0 hS.race i q c' e e' hq k1 h1 he'
   simp only [Nat.zero_add,hb,Qm,false_or] at hs hr
   refine ⟨fun t ht hg=>?_,fun x hx hxo=>(zf9 hr x).1 ⟨hx,hxo⟩⟩
   unfold tG at hg
   rw [k2] at hg
   unfold zpn at hs
   simp only [hg,Qi,Bool.not_eq_true'] at hs
   have:=hs.2
   rw [List.contains_iff_mem.2 ht] at this; cases this
 refine ⟨e,h1, ?_,fun k hk=>?_,⟨base + zax cs, ?_⟩, ?_, ?_⟩
 ·refine zym (fun t ht=>?_) h3 (fun x hx=>?_)
  ·refine zgl zk0 zuw es 0 _ _ (fun q e' he' hg=>?_) rfl
   rw [Nat.zero_add]
   exact Classical.byContradiction fun hne=>(apart1 q e' he' hne).1 t ht hg
  ·refine zgl zf5 zn3 es 0 _ _ (fun q e' he' hg=>?_) rfl
   rw [Nat.zero_add]
   exact Classical.byContradiction fun hne=>(apart1 q e' he' hne).2 x hx hg
 ·-- its own number is not given yet
  have h7:=zd9 hi
  have:apO es S 0 obj0 (base + zax (cs.take i) + k)=obj0 (base + zax (cs.take i) + k):=by
   refine zn1 zf5 zn3 es 0 obj0 (fun q e' he' hs hto=>?_)
   rw [Nat.zero_add] at hs
   obtain ⟨c',k1,k2,k3,k4,k5⟩:=cof q e' he'
   rcases Nat.lt_trichotomy q i with hq | hq | hq
   ·have h8:=k3 _ hto
    have h9:=zcz cs (q + 1) i (by omega)
    omega
   ·subst hq; rw [hSi] at hs; cases hs
   ·have hb:=hlater q c' hq k1 hs
    have hr:=zhr cs es 0 hS.race i q c' e e' hq k1 h1 he'
    simp only [Nat.zero_add,hb,Qm,false_or] at hr
    have hnew:tO e (base + zax (cs.take i) + k):=.inr ((zk2 _ _).2 ⟨k,hk,by rw [h5]⟩)
    rcases hto with ⟨hw,hx⟩ | hx
    ·exact (zf9 hr _).2 ⟨hx,hnew⟩
    ·obtain ⟨k',m1,m2⟩:=(zk2 _ _).1 hx
     have h9:=zcz cs (i + 1) q (by omega)
     omega
  rw [this,Nat.add_assoc]
  exact hS.free _
 ·have:apO es S 0 obj0 (base + zax cs)=obj0 (base + zax cs):=by
   refine zn1 zf5 zn3 es 0 obj0 (fun q e' he' hs hto=>?_)
   obtain ⟨c',k1,k2,k3,k4,k5⟩:=cof q e' he'
   have h6:=k3 _ hto
   have h7:=zcz cs (q + 1) (max (q + 1) cs.length) (by omega)
   have h8:cs.take (max (q + 1) cs.length)=cs:=List.take_of_length_le (by omega)
   rw [h8] at h7
   omega
  rw [this]
  exact hS.free _
 ·funext t
  refine zs9 zk0 zuw h1 hSi t get0 (fun q e' hq he' hs t1 t2=>?_)
  obtain ⟨c',k1,k2,k3,k4,k5⟩:=cof q e' he'
  have hb:=hlater q c' hq k1 hs
  have hsl:=zi7 cs 0 hS.slots i q c c' hq hi k1
  simp only [Nat.zero_add,hb,Qm,false_or] at hsl
  unfold tG at t1 t2
  rw [k2] at t1
  rw [h2] at t2
  unfold zpn at hsl
  simp [t1,t2] at hsl
 ·funext t
  refine zs9 zf5 zn3 h1 hSi t obj0 (fun q e' hq he' hs t1 t2=>?_)
  obtain ⟨c',k1,k2,k3,k4,k5⟩:=cof q e' he'
  have hb:=hlater q c' hq k1 hs
  have hr:=zhr cs es 0 hS.race i q c' e e' hq k1 h1 he'
  simp only [Nat.zero_add,hb,Qm,false_or] at hr
  obtain ⟨r1,r2⟩:=zf9 hr t
  rcases t2 with ⟨w2,x2⟩ | x2
  ·exact r1 ⟨x2,t1⟩
  ·rcases t1 with ⟨w1,x1⟩ | x1
   ·exact r2 ⟨x1,.inr x2⟩
   ·obtain ⟨k1',m1,m2⟩:=(zk2 _ _).1 x1
    obtain ⟨k2',m3,m4⟩:=(zk2 _ _).1 x2
    have h7:=zcz cs (i + 1) q (by omega)
    have h8:=zd9 hi
    omega
theorem z9y {rd:Option Nat}{dp:Nat}(hB:zg1 P tab)(hCall:CallOk P tab call){nt:Nat}{ops:Array Oper}{cs:List CO}{es:List Eff}{base:Nat}{get0:Nat→V}{obj0:Nat→Option Obj}(hS:Setup P tab call nt ops cs es base get0 obj0){g0:Gh}{ob0:Nat→Option Obj}{w0:World}{Q:Exit→Act→World→Prop}
  (hQ:∀ g' a' w',Go1 tab nt g0 ob0 w0 ds g' (apG es (fun _=>true) 0 get0) (apO es (fun _=>true) 0 obj0) a' w'→Q .normal a' w') :
  ∀ (fuel:Nat) (listed:Array Bool) (g:Gh) (a:Act) (w:World),listed.size=ops.size→((List.range ops.size).filter fun i=>!listed.getD i false).length ≤ fuel→z1i ops (fun i=>listed.getD i false) →
   Go1 tab nt g0 ob0 w0 ds g (apG es (fun i=>listed.getD i false) 0 get0) (apO es (fun i=>listed.getD i false) 0 obj0) a w→wpAnyIn (fen rd) dp P .any ops Q fuel listed a w:=by
 have hsize:=hS.sizes
 have done:∀ (listed:Array Bool) (g:Gh) (a:Act) (w:World),(∀ i,i < ops.size→listed.getD i false=true) →
   Go1 tab nt g0 ob0 w0 ds g (apG es (fun i=>listed.getD i false) 0 get0) (apO es (fun i=>listed.getD i false) 0 obj0) a w→Q .normal a w:=by
  intro listed g a w hall hR
  refine hQ g a w ?_
  have e1:apG es (fun i=>listed.getD i false) 0 get0=apG es (fun _=>true) 0 get0:=by
   funext t
   refine zgl zk0 zuw es 0 _ _ (fun q e' he' _=>?_) rfl
   rw [Nat.zero_add]
   refine hall q ?_
   rcases Qn q es.length with h | h
   ·have:=hS.facts.len; omega
   ·rw [Qe h] at he'; cases he'
  have e2:apO es (fun i=>listed.getD i false) 0 obj0=apO es (fun _=>true) 0 obj0:=by
   funext t
   refine zgl zf5 zn3 es 0 _ _ (fun q e' he' _=>?_) rfl
   rw [Nat.zero_add]
   refine hall q ?_
   rcases Qn q es.length with h | h
   ·have:=hS.facts.len; omega
   ·rw [Qe h] at he'; cases he'
  rw [← e1,← e2]
  exact hR
 have getDs:∀ (listed:Array Bool) i,listed.size=ops.size→i < ops.size→listed.getD i true=listed.getD i false:=fun listed i h1 h2=>by
  simp [Array.getElem?_eq_getElem (show i < listed.size by omega)]
 have allDone:∀ (listed:Array Bool),listed.size=ops.size→Region.ready .any ops listed=[]→∀ n i,i < n→i < ops.size→listed.getD i false=true:=by
  intro listed hsz hr n
  induction n with
  | zero=>intro i hi; omega
  | succ n ih =>
   intro i hi hlt
   cases hv:listed.getD i false with
   | true=>rfl
   | false =>
    exfalso
    have:i ∈ Region.ready .any ops listed:=by
     rw [mem_ready]
     refine ⟨by rw [getDs listed i hsz hlt]; exact hv,ops[i],Array.getElem?_eq_getElem hlt,fun e he hb=>?_⟩
     have hon:=zi8 hS.edges (i:=i) (o:=ops[i]) (by simp [hlt]) e he hb
     exact ih e.on (by omega) (by omega)
    rw [hr] at this; cases this
 intro fuel
 induction fuel with
 | zero =>
  intro listed g a w hsz hcnt hcl hR
  have hnil:(List.range ops.size).filter (fun i=>!listed.getD i false)=[]:=List.length_eq_zero_iff.1 (by omega)
  have hall:∀ i,i < ops.size→listed.getD i false=true:=fun i hi=>by
   cases hv:listed.getD i false with
   | true=>rfl
   | false =>
    have:i ∈ (List.range ops.size).filter (fun i=>!listed.getD i false):=by rw [List.mem_filter]; exact ⟨List.mem_range.2 hi,by simp only [hv]; rfl⟩
    rw [hnil] at this; cases this
  refine ⟨?_,done listed g a w hall hR⟩
  rw [List.eq_nil_iff_forall_not_mem]
  intro i hi
  rw [mem_ready] at hi
  obtain ⟨h1,o,ho,_⟩:=hi
  have hlt:=(Array.getElem?_eq_some_iff.1 ho).1
  rw [getDs listed i hsz hlt,hall i hlt] at h1
  cases h1
 | succ fuel ih =>
  intro listed g a w hsz hcnt hcl hR
  refine ⟨fun hr=>done listed g a w (fun i hi=>allDone listed hsz hr (i + 1) i (by omega) hi) hR,fun i hi=>?_⟩
  rw [mem_ready] at hi
  obtain ⟨h1,o,ho,hready⟩:=hi
  have hlt:=(Array.getElem?_eq_some_iff.1 ho).1
  rw [getDs listed i hsz hlt] at h1
  obtain ⟨c,hc⟩:∃ c,cs[i]?=some c:=⟨cs[i]'(by omega),Qd (by omega)⟩
  obtain ⟨o',frz,m1,m2,m3,m4,m5⟩:=hS.comp.get.2 i c hc
  have:o'=o:=by
   rw [Array.getElem?_toList,ho] at m1
   exact (Option.some.inj m1).symm
  subst this
  obtain ⟨e,n1,n2,n3,n4,n5,n6⟩:=z5q hS hcl (fun q hq=>by
   rcases Qn q ops.size with h | h
   ·exact h
   ·rw [Array.getD_eq_getD_getElem?,Array.getElem?_eq_none (by omega)] at hq; cases hq) hc ho h1 hready
  refine z2c hB hCall ho m2 m3 m4 m5 hR n4 n3 n2 (fun g' a' w' hR'=>?_)
  have hS':∀ q,(listed.setIfInBounds i true).getD q false=(listed.getD q false || q == i):=fun q=>by
   by_cases e:i=q
   ·subst e
    simp [show i < listed.size by omega]
   ·rw [getD_set_ne false e]
    have:(q == i)=false:=by simp; omega
    rw [this,Bool.or_false]
  have hSf:(fun q=>(listed.setIfInBounds i true).getD q false)=fun q=>listed.getD q false || q == i:=funext hS'
  refine ih (listed.setIfInBounds i true) g' a' w' (by simp [hsz]) ?_ ?_ ?_
  ·-- one less
   have hmem:i ∈ (List.range ops.size).filter fun i=>!listed.getD i false:=by rw [List.mem_filter]; exact ⟨List.mem_range.2 hlt,by simp only [h1]; rfl⟩
   have hsub:((List.range ops.size).filter fun q=>!(listed.setIfInBounds i true).getD q false)=((List.range ops.size).filter fun q=>!listed.getD q false).filter fun q=>!(q == i):=by
    rw [List.filter_filter]
    congr 1
    funext q
    rw [hS' q]
    cases listed.getD q false <;> cases (q == i) <;> rfl
   rw [hsub]
   have hlt2:(((List.range ops.size).filter fun q=>!listed.getD q false).filter fun q=>!(q == i)).length < ((List.range ops.size).filter fun q=>!listed.getD q false).length:=by
    rw [List.length_filter_lt_length_iff_exists]
    exact ⟨i,hmem,by simp⟩
   omega
  ·rw [hSf]
   intro q oq hq hoq e' he' hb
   simp only [Bool.or_eq_true,beq_iff_eq] at hq ⊢
   rcases hq with hq | rfl
   ·exact .inl (hcl q oq hq hoq e' he' hb)
   ·rw [ho] at hoq
    cases hoq
    exact .inl (hready e' he' hb)
  ·rw [hSf,n5,n6]
   exact hR'
theorem zx4 {rd:Option Nat}{dp:Nat}(hB:zg1 P tab)(hCall:CallOk P tab call)(hm:P.follows .mixedOrders=true){id:Nat}{ops:Array Oper}{nt:Nat}{cs:List CO}(hc:CompOps P tab nt ops ops.toList cs)(hpre:∀ i c,cs[i]?=some c→c.pre=(zie ops.toList []).getD i 0)
  (hsl:zkw cs 0=true) (hed:zi1 ops.toList 0=true) {s s':St} (hr:zbb call true cs s=some s') {g:Gh} {a:Act} {w:World} (hR:Rel tab nt g s.get s.obj a w) (hds:a.defers=ds)
  {Q:Exit→Act→World→Prop} (hQ:∀ g' a' w',Go1 tab nt g s.obj w ds g' s'.get s'.obj a' w'→Q .normal a' w'):(Code.region id ops true).wpIn (fen rd) dp P Q a w:=by
 unfold zbb at hr
 simp only [if_true] at hr
 split at hr
 ·rename_i s2 es hrun
  split at hr
  ·rename_i hrace
   simp only [Qa] at hr
   subst hr
   have hobj:(⟨s.tmps,s.heap++List.replicate (zax cs) none⟩:St).obj=s.obj:=by
    funext q
    unfold St.obj
    simp only
    rcases Qn q s.heap.length with h | h
    ·rw [List.getElem?_append_left h]
    ·rw [List.getElem?_append_right h,Qe h,List.getElem?_replicate]
     split <;> rfl
   have hfree:∀ q,s.obj (s.heap.length + q)=none:=fun q=>by
    unfold St.obj
    rw [Qe (by omega)]; rfl
   obtain ⟨f1,f2,f3,f4⟩:=zsi (N:=zax cs) cs 0 _ es hrun ⟨by simp,fun q _=>by rw [hobj]; exact hfree q⟩ (Nat.zero_add _)
   rw [hobj] at f1 f3
   have hS:Setup P tab call nt ops cs es s.heap.length s.get s.obj:=⟨hc,hpre,hsl,hed,hrace,f1,hfree⟩
   refine wpIn_region_any hm ?_
   have hR':Rel tab nt g s.get s.obj a w.drew:=⟨fun t=>(hR.tmp t).drew,hR.size,hR.heap.drew⟩
   have hempty:∀ {β:Type} (F:Eff→(Nat→β)→(Nat→β)) (x:Nat→β) (es:List Eff) (i:Nat),ap F es (fun i=>(Array.replicate ops.size false).getD i false) i x=x:=by
    intro β F x es
    induction es with
    | nil=>intro i; rfl
    | cons e es ih =>
     intro i
     have:(Array.replicate ops.size false).getD i false=false:=by
      rw [Array.getD_eq_getD_getElem?,Array.getElem?_replicate]
      split <;> rfl
     simp only [ap,this,Qm,if_false]
     exact ih (i + 1)
   have hno:∀ i,(Array.replicate ops.size false).getD i false=false:=fun i=>by
    rw [Array.getD_eq_getD_getElem?,Array.getElem?_replicate]
    split <;> rfl
   refine z9y (ds:=ds) hB hCall hS (g0:=g) (ob0:=s.obj) (w0:=w) (fun g' a' w' h=>hQ g' a' w' ?_) ops.size _ g a w.drew (by simp) ?_ ?_ ?_
   ·rw [f2,f3]; exact h
   ·exact Nat.le_trans (List.length_filter_le _ _) (by simp)
   ·intro i o hi
    simp only [hno] at hi
    cases hi
   ·show Go1 tab nt g s.obj w ds g (ap Eff.getF _ _ _ _) (ap Eff.objF _ _ _ _) a w.drew
    rw [hempty,hempty]
    exact ⟨hR',(Post.drew hR.heap).evo,hds⟩
  ·cases hr
 ·cases hr
end
open Go
open Go.RowKit (Below)
section
variable {tab:Tab} {ds:List Deferred}
theorem zm8 (s:St):∀ (l:List Nat) (t:Nat),za1 (zcs s l) t=s.get t ∨ za1 (zcs s l) t = .bad
 | [],t=>.inr rfl
 | x :: r,t=>by
  simp only [zcs,zb0]
  split
  ·rename_i e; subst e; exact .inl rfl
  ·exact zm8 s r t
theorem Go1.weaken {nt:Nat}{g0:Gh}{ob0:Nat→Option Obj}{w0:World}{g:Gh}{get get':Nat→V}{obj:Nat→Option Obj}{a:Act}{w:World}(h:Go1 tab nt g0 ob0 w0 ds g get obj a w)(hg:∀ t,get' t=get t ∨ get' t = .bad):Go1 tab nt g0 ob0 w0 ds g get' obj a w :=
 ⟨⟨fun t=>by
  rcases hg t with e | e
  ·rw [e]; exact h.rel.tmp t
  ·rw [e]; simp only [zag],h.rel.size,h.rel.heap⟩,h.evo,h.df⟩
theorem zl4 {tm tm':List (Nat × V)}(h:List (Option Obj))(o:Obj):(⟨tm,h++[some o]⟩:St).obj=zby (⟨tm',h⟩:St).obj h.length (some o):=by
 funext j
 unfold St.obj zby
 simp only
 rcases Nat.lt_trichotomy j h.length with hj | hj | hj
 ·rw [List.getElem?_append_left hj,if_neg (by omega)]
 ·subst hj; simp
 ·rw [Qe (by simp; omega),if_neg (by omega),Qe (by omega)]
theorem zsj {g:Gh}{obj:Nat→Option Obj}{w:World}{id sz:Nat}(h:obj id=some (.tok 0 sz)):zag tab g obj w (.own id 0 sz []) (.slice none 0 0):=by
 refine zj9 ?_ h ⟨none,0,rfl,.inl rfl⟩
 simp only [za6]
 exact ⟨none,0,rfl,Nat.le_refl _,by simp,by simp⟩
theorem zx5 {nt:Nat}{g0:Gh}{ob0:Nat→Option Obj}{w0:World}{g:Gh}{s:St}{a:Act}{w:World}(h:Go1 tab nt g0 ob0 w0 ds g s.get s.obj a w)(t:Nat):∃ g',Go1 tab nt g0 ob0 w0 ds g' (zep s t).get (zep s t).obj a w:=by
 unfold zep
 cases hv:s.get t with
 | nil sz =>
  simp only
  have hf:s.obj s.heap.length=none:=by unfold St.obj; rw [Qe (Nat.le_refl _)]; rfl
  have hp:=zl8 (tab:=tab) h.rel.heap (id:=s.heap.length) (ver:=0) (sz:=sz) (.inl hf) 0 0 0 (.inr rfl)
  have hobj:(⟨(t,.own s.heap.length 0 sz []) :: s.tmps,s.heap++[some (.tok 0 sz)]⟩:St).obj=zby s.obj s.heap.length (some (.tok 0 sz)):=zl4 (tm':=s.tmps) s.heap _
  refine ⟨_,⟨fun t'=>?_,h.rel.size,by rw [hobj]; exact hp.heap⟩,by rw [hobj]; exact h.evo.trans hp.evo,h.df⟩
  rw [hobj]
  simp only [St.get,zb0]
  split
  ·rename_i e
   subst e
   have:=h.rel.tmp t
   rw [hv] at this
   simp only [zag] at this
   rw [this]
   exact zsj (zao _ _ _)
  ·exact hp.vals _ _ (h.rel.tmp t')
 | _=>exact ⟨g,h⟩
theorem zm9 {g:Gh}{obj:Nat→Option Obj}{w:World}(hH:HRel tab g obj w){id:Nat}{cs cs':List V}(ho:obj id=some (.box cs))(hl:cs'.length=cs.length)(hc:∀ us,zai tab g obj w cs us→zai tab g obj w cs' us) :
  Post tab g obj w g (zby obj id (some (.box cs'))) w:=by
 have hat:zdj g.at_ id (g.at_ id)=g.at_:=by funext j; unfold zdj; split <;> simp_all
 have howns:∀ b q,zbf ⟨zdj g.at_ id (g.at_ id),g.im⟩ (zby obj id (some (.box cs'))) id b q→zbf g obj id b q:=fun b q h=>by
  unfold zbf at *
  simp only [zao,zap] at h
  rw [ho]; exact h
 obtain ⟨h1,h2,h3⟩:=zgd (w':=w) hH id (.box cs') (g.at_ id) g.im rfl rfl rfl (Nat.le_refl _) (fun _ _=>.refl _) (fun b q h=>h) (fun b q h=>.inl h)
  (fun b q h=>⟨.inl (howns b q h),hH.imm id b q (howns b q h)⟩)
  (fun b q h hm=>hH.frz id b q (howns b q h) (fun kvs e=>by rw [ho] at e; cases e))
  (.box (.inl ⟨cs,ho⟩) (.inl ⟨cs',rfl⟩) _)
  (fun hv=>by
   obtain ⟨k1,us,k2,k3⟩:=hH.ob id _ ho
   exact ⟨by omega,us,(hc us k2).of_vals hv,k3⟩)
 rw [hat] at h1 h2 h3
 exact ⟨h1,h2,h3⟩
theorem zai.setv {g:Gh}{obj:Nat→Option Obj}{w:World}:∀ {cs:List V} {us:List Value} {i:Nat} {x:V} {u:Value},zai tab g obj w cs us→us[i]?=some u→zag tab g obj w x u→zai tab g obj w (cs.set i x) us
 | [],[],i,x,u,h,hi,hx=>by simpa using h
 | c :: cs,v :: us,0,x,u,h,hi,hx=>by
  simp only [List.getElem?_cons_zero,Qa] at hi
  subst hi
  simp only [zai] at h
  simp only [List.set_cons_zero,zai]
  exact ⟨hx,h.2.1,h.2.2⟩
 | c :: cs,v :: us,i + 1,x,u,h,hi,hx=>by
  simp only [zai] at h
  simp only [List.set_cons_succ,zai]
  exact ⟨h.1,h.2.1,zai.setv h.2.2 (by simpa using hi) hx⟩
 | [],_ :: _,_,_,_,h,_,_=>by simp only [zai] at h
 | _ :: _,[],_,_,_,h,_,_=>by simp only [zai] at h
theorem z5r {g:Gh}{obj:Nat→Option Obj}{w:World}(hH:HRel tab g obj w){id:Nat}(sz:Nat)(hf:obj id=none) :
  ∃ g',Post tab g obj w g' (zby obj id (some (.arr 0 sz []))) w∧zag tab g' (zby obj id (some (.arr 0 sz []))) w (.arr id 0 0 0) (.slice none 0 0):=by
 have hown:∀ b q,¬ zbf ⟨zdj g.at_ id ⟨0,0,0⟩,g.im⟩ (zby obj id (some (.arr 0 sz []))) id b q:=fun b q h=>by
  unfold zbf at h
  simp only [zao,zap] at h
  omega
 obtain ⟨k1,k2,k3⟩:=zgd (w':=w) hH id (.arr 0 sz []) ⟨0,0,0⟩ g.im rfl rfl rfl (Nat.le_refl _) (fun _ _=>.refl _) (fun _ _ h=>h) (fun _ _ h=>.inl h)
  (fun b q h=>absurd h (hown b q))
  (fun b q h _=>absurd h (hown b q))
  (.fresh hf _ _ _)
  (fun hv=>⟨fun r hr=>(by cases hr),by simp,fun q hq=>absurd hq (Nat.not_lt_zero _),fun i r q x hi _=>by simp at hi⟩)
 refine ⟨_,⟨k1,k2,k3⟩, ?_⟩
 simp only [zag,zao,zap]
 exact ⟨⟨_,_,rfl,Nat.le_refl _⟩,0,sz,_,rfl,Nat.le_refl _,fun _=>⟨by simp,_,_,rfl,.inl rfl⟩⟩
theorem zsk {nt:Nat}{g0:Gh}{ob0:Nat→Option Obj}{w0:World}{g:Gh}{s:St}{a:Act}{w:World}(h:Go1 tab nt g0 ob0 w0 ds g s.get s.obj a w)(t:Nat × Nat):∃ g',Go1 tab nt g0 ob0 w0 ds g' (zdn s t).get (zdn s t).obj a w:=by
 unfold zdn
 cases hv:s.get t.1 with
 | ptr id off =>
  simp only
  cases ho:s.obj id with
  | none=>exact ⟨g,h⟩
  | some ob =>
   cases ob with
   | box cs =>
    simp only
    cases hc:cs[off + t.2]? with
    | none=>exact ⟨g,h⟩
    | some cv =>
     cases cv with
     | nil sz =>
      simp only
      have hf:s.obj s.heap.length=none:=by unfold St.obj; rw [Qe (Nat.le_refl _)]; rfl
      have hlt:id < s.heap.length:=zny (by rw [ho]; rfl)
      have hp:=zl8 (tab:=tab) h.rel.heap (id:=s.heap.length) (ver:=0) (sz:=sz) (.inl hf) 0 0 0 (.inr rfl)
      have ho':zby s.obj s.heap.length (some (.tok 0 sz)) id=some (.box cs):=by rw [zco _ _ (by omega)]; exact ho
      have hq:=zm9 (tab:=tab) hp.heap (cs':=cs.set (off + t.2) (.own s.heap.length 0 sz [])) ho' (by simp) (fun us hus=>by
       obtain ⟨u,k1,k2,k3⟩:=hus.get hc
       refine hus.setv k1 ?_
       simp only [zag] at k2
       rw [k2]
       exact zsj (zao _ _ _))
      have hobj:(⟨s.tmps,s.heap.set id (some (.box (cs.set (off + t.2) (.own s.heap.length 0 sz []))))++[some (.tok 0 sz)]⟩:St).obj=zby (zby s.obj s.heap.length (some (.tok 0 sz))) id (some (.box (cs.set (off + t.2) (.own s.heap.length 0 sz [])))):=by
       rw [zl4 (tm':=s.tmps),zfw (tm':=s.tmps) hlt,List.length_set]
       funext j
       unfold zby
       split
       ·split
        ·omega
        ·rfl
       ·rfl
      refine ⟨_,⟨fun t'=>?_,h.rel.size,by rw [hobj]; exact hq.heap⟩,by rw [hobj]; exact (h.evo.trans hp.evo).trans hq.evo,h.df⟩
      rw [hobj]
      exact hq.vals _ _ (hp.vals _ _ (h.rel.tmp t'))
     | _=>exact ⟨g,h⟩
   | _=>exact ⟨g,h⟩
 | nil sz =>
  simp only
  have hf:s.obj s.heap.length=none:=by unfold St.obj; rw [Qe (Nat.le_refl _)]; rfl
  obtain ⟨g',hp,hv'⟩:=z5r (tab:=tab) h.rel.heap (id:=s.heap.length) sz hf
  have hobj:(⟨(t.1,.arr s.heap.length 0 0 0) :: s.tmps,s.heap++[some (.arr 0 sz [])]⟩:St).obj=zby s.obj s.heap.length (some (.arr 0 sz [])):=zl4 (tm':=s.tmps) s.heap _
  refine ⟨g',⟨fun t'=>?_,h.rel.size,by rw [hobj]; exact hp.heap⟩,by rw [hobj]; exact h.evo.trans hp.evo,h.df⟩
  rw [hobj]
  simp only [St.get,zb0]
  split
  ·rename_i e
   subst e
   have:=h.rel.tmp t.1
   rw [hv] at this
   simp only [zag] at this
   rw [this]
   exact hv'
  ·exact hp.vals _ _ (h.rel.tmp t')
 | _=>exact ⟨g,h⟩
theorem zqk {g:Gh}{obj:Nat→Option Obj}{w:World}{x:V}{v:Value}(h:zag tab g obj w x v):zag tab g obj w (zsw x) v:=by
 cases x with
 | nil sz =>
  simp only [zsw,zag,za6] at *
  subst h
  exact ⟨none,0,rfl,Nat.le_refl _,by simp,.inl trivial⟩
 | own id ver sz xs=>simp only [zsw,zag] at *; exact h.1
 | _=>exact h
theorem z5s {g:Gh}{obj:Nat→Option Obj}{w:World}{x:V}{v:Value}(h:zag tab g obj w x v):zag tab g obj w (z1x x) v:=by
 cases x with
 | agg cs =>
  simp only [z1x,zag] at *
  obtain ⟨vs,h1,h2⟩:=h
  refine ⟨vs,h1, ?_⟩
  have:∀ (cs:List V) (vs:List Value),zai tab g obj w cs vs→zai tab g obj w (cs.map zsw) vs:=by
   intro cs
   induction cs with
   | nil=>intro vs h; cases vs with | nil=>simp [zai] | cons=>simp only [zai] at h
   | cons c cs ih =>
    intro vs h
    cases vs with
    | nil=>simp only [zai] at h
    | cons u us=>simp only [Qb,zai] at *; exact ⟨zqk h.1,h.2.1,ih us h.2.2⟩
  exact this cs vs h2
 | _=>exact zqk h
theorem z1j {nt:Nat}{g0:Gh}{ob0:Nat→Option Obj}{w0:World}(ann:Ann){g:Gh}{s:St}{a:Act}{w:World}(h:Go1 tab nt g0 ob0 w0 ds g s.get s.obj a w):Go1 tab nt g0 ob0 w0 ds g (z3a ann s).get (z3a ann s).obj a w:=by
 have h1:∀ (l:List Nat) (s:St),Go1 tab nt g0 ob0 w0 ds g s.get s.obj a w→Go1 tab nt g0 ob0 w0 ds g (l.foldl zfv s).get (l.foldl zfv s).obj a w:=by
  intro l
  induction l with
  | nil=>intro s h; exact h
  | cons t l ih =>
   intro s h
   refine ih _ ⟨⟨fun t'=>?_,h.rel.size,h.rel.heap⟩,h.evo,h.df⟩
   show zag tab g s.obj w (za1 ((t,z1x (s.get t)) :: s.tmps) t') _
   rw [zb0]
   split
   ·rename_i e; subst e; exact z5s (h.rel.tmp t)
   ·exact h.rel.tmp t'
 have h2:∀ (l:List (Nat × Nat)) (s:St),Go1 tab nt g0 ob0 w0 ds g s.get s.obj a w→Go1 tab nt g0 ob0 w0 ds g (l.foldl zib s).get (l.foldl zib s).obj a w:=by
  intro l
  induction l with
  | nil=>intro s h; exact h
  | cons t l ih =>
   intro s h
   refine ih _ ?_
   unfold zib
   split
   ·rename_i id off hg
    split
    ·rename_i cs ho
     split
     ·rename_i v hv
      have hlt:id < s.heap.length:=zny (by rw [ho]; rfl)
      have hq:=zm9 (tab:=tab) h.rel.heap (cs':=cs.set (off + t.2) (zsw v)) ho (by simp) (fun us hus=>by
       obtain ⟨u,k1,k2,k3⟩:=hus.get hv
       exact hus.setv k1 (zqk k2))
      have hobj:(⟨s.tmps,s.heap.set id (some (.box (cs.set (off + t.2) (zsw v))))⟩:St).obj=zby s.obj id (some (.box (cs.set (off + t.2) (zsw v)))):=zfw (tm':=s.tmps) hlt
      refine ⟨⟨fun t'=>?_,h.rel.size,by rw [hobj]; exact hq.heap⟩,by rw [hobj]; exact h.evo.trans hq.evo,h.df⟩
      rw [hobj]
      exact hq.vals _ _ (h.rel.tmp t')
     ·exact h
    ·exact h
   ·exact h
 exact h2 _ _ (h1 _ _ h)
theorem z5t {nt:Nat}{g0:Gh}{ob0:Nat→Option Obj}{w0:World}(ann:Ann){g:Gh}{s:St}{a:Act}{w:World}(h:Go1 tab nt g0 ob0 w0 ds g s.get s.obj a w):∃ g',Go1 tab nt g0 ob0 w0 ds g' (enter ann s).get (enter ann s).obj a w:=by
 have h1:∀ (l:List Nat) (s:St) (g:Gh),Go1 tab nt g0 ob0 w0 ds g s.get s.obj a w→∃ g',Go1 tab nt g0 ob0 w0 ds g' (l.foldl zep s).get (l.foldl zep s).obj a w:=by
  intro l
  induction l with
  | nil=>intro s g h; exact ⟨g,h⟩
  | cons t l ih=>intro s g h; obtain ⟨g',h'⟩:=zx5 h t; exact ih _ g' h'
 have h2:∀ (l:List (Nat × Nat)) (s:St) (g:Gh),Go1 tab nt g0 ob0 w0 ds g s.get s.obj a w→∃ g',Go1 tab nt g0 ob0 w0 ds g' (l.foldl zdn s).get (l.foldl zdn s).obj a w:=by
  intro l
  induction l with
  | nil=>intro s g h; exact ⟨g,h⟩
  | cons t l ih=>intro s g h; obtain ⟨g',h'⟩:=zsk h t; exact ih _ g' h'
 obtain ⟨g1,k1⟩:=h1 ann.own s g h
 obtain ⟨g2,k2⟩:=h2 ann.ownB _ g1 k1
 exact ⟨g2,(z1j ann k2).weaken fun t=>zm8 _ _ t⟩
end
open Go
open Go.RowKit (Below)
section
variable {tab:Tab} {ds:List Deferred} {g:Gh} {obj obj':Nat→Option Obj} {w:World}
mutual
theorem zag.under {n:Nat}(ho:∀ i,i < n→obj' i=obj i):∀ (x:V) (v:Value),V.under n x=true→zag tab g obj w x v→zag tab g obj' w x v
 | .d x,v,_,h=>by simp only [zag] at *; exact h
 | .nil _,v,_,h=>by simp only [zag] at *; exact h
 | .own id ver sz xs,v,hu,h=>by
  simp only [V.under,Qh] at hu
  simp only [zag] at *
  rw [ho id hu]; exact h
 | .arr id ver off len,v,hu,h=>by
  simp only [V.under,Qh] at hu
  simp only [zag] at *
  rw [ho id hu]; exact h
 | .ptr id off,v,hu,h=>by
  simp only [V.under,Qh] at hu
  simp only [zag] at *
  rw [ho id hu]; exact h
 | .pm id ver idx off,v,hu,h=>by
  simp only [V.under,Qh] at hu
  simp only [zag] at *
  rw [ho id hu]; exact h
 | .map id,v,hu,h=>by
  simp only [V.under,Qh] at hu
  simp only [zag] at *
  rw [ho id hu]; exact h
 | .fn key a c,v,hu,h=>by
  simp only [V.under,Qi] at hu
  simp only [zag] at *
  rcases h with ⟨fid,fs,cs,h1,h2,h3,h4,h5⟩ | ⟨id,h1,h2,h3,h4⟩
  ·exact .inl ⟨fid,fs,cs,h1,h2,zaf.under ho a fs hu.1 h3,zaf.under ho c cs hu.2 h4,h5⟩
  ·have hid:id < n:=by
    have:=hu.1
    rw [h1] at this
    simpa [V.underAll,V.under] using this
   exact .inr ⟨id,h1,h2,h3,by rw [ho id hid]; exact h4⟩
 | .agg cs,v,hu,h=>by
  simp only [V.under] at hu
  simp only [zag] at *
  obtain ⟨vs,h1,h2⟩:=h
  exact ⟨vs,h1,zai.under ho cs vs hu h2⟩
 | .tup ws,v,hu,h=>by
  simp only [V.under] at hu
  simp only [zag] at *
  obtain ⟨vs,h1,h2⟩:=h
  exact ⟨vs,h1,zaf.under ho ws vs hu h2⟩
 | .bad,v,_,_=>by simp only [zag]
theorem zaf.under {n:Nat}(ho:∀ i,i < n→obj' i=obj i):∀ (xs:List V) (vs:List Value),V.underAll n xs=true→zaf tab g obj w xs vs→zaf tab g obj' w xs vs
 | [],[],_,_=>by simp only [zaf]
 | x :: xs,v :: vs,hu,h=>by
  simp only [V.underAll,Qi] at hu
  simp only [zaf] at *
  exact ⟨zag.under ho x v hu.1 h.1,zaf.under ho xs vs hu.2 h.2⟩
 | [],_ :: _,_,h=>by simp only [zaf] at h
 | _ :: _,[],_,h=>by simp only [zaf] at h
theorem zai.under {n:Nat}(ho:∀ i,i < n→obj' i=obj i):∀ (xs:List V) (vs:List Value),V.underAll n xs=true→zai tab g obj w xs vs→zai tab g obj' w xs vs
 | [],[],_,_=>by simp only [zai]
 | x :: xs,v :: vs,hu,h=>by
  simp only [V.underAll,Qi] at hu
  simp only [zai] at *
  exact ⟨zag.under ho x v hu.1 h.1,h.2.1,zai.under ho xs vs hu.2 h.2.2⟩
 | [],_ :: _,_,h=>by simp only [zai] at h
 | _ :: _,[],_,h=>by simp only [zai] at h
end
theorem zay.under {n:Nat}(ho:∀ i,i < n→obj' i=obj i):∀ (kvs:List (List D × V)) (es:List MapEntry),zct n kvs=true→zay tab g obj w kvs es→zay tab g obj' w kvs es
 | [],[],_,_=>by simp only [zay]
 | (k,x) :: r,e :: es,hu,h=>by
  simp only [zct,Qi] at hu
  simp only [zay] at *
  exact ⟨h.1,zag.under ho _ _ hu.1 h.2.1,zay.under ho r es hu.2 h.2.2⟩
 | [],_ :: _,_,h=>by simp only [zay] at h
 | (_,_) :: _,[],_,h=>by simp only [zay] at h
theorem zwf (hH:HRel tab g obj w)(hown:∀ i b o,zbf g obj' i b o→zbf g obj i b o)(hmap:∀ i,(∀ kvs,obj' i ≠ some (.map kvs))→∀ b o,zbf g obj' i b o→∀ kvs,obj i ≠ some (.map kvs))(hO:∀ i o,obj' i=some o→zye tab g obj' w (g.at_ i) o):HRel tab g obj' w where
 ob:=hO
 imm i b o h:=hH.imm i b o (hown i b o h)
 one i j b o h h':=hH.one i j b o (hown i b o h) (hown j b o h')
 old i b o h:=hH.old i b o (hown i b o h)
 frz i b o h hm:=hH.frz i b o (hown i b o h) (hmap i hm b o h)
 imOld:=hH.imOld
theorem z1k {g0:Gh}{ob0:Nat→Option Obj}{w0:World}(h:Evo g0 ob0 w0 g obj w)(hown:∀ i b o,zbf g obj' i b o→zbf g obj i b o)(hk:z11 g0 ob0 g obj'):Evo g0 ob0 w0 g obj' w :=
 ⟨h.os,h.tape,h.output,h.size,h.blk,h.im,h.imNew,fun b o ⟨i,hi⟩=>h.ownNew b o ⟨i,hown i b o hi⟩,hk⟩
theorem z1l {g0 g:Gh}{ob0 obj:Nat→Option Obj}(h:z11 g0 ob0 g obj){i:Nat}(hi:(ob0 i).isSome=true):(obj i).isSome=true:=by
 have:=h i
 cases ho:ob0 i with
 | none=>rw [ho] at hi; cases hi
 | some o =>
  rw [ho] at this
  cases o with
  | box cs=>rcases this.1 with ⟨c,e⟩ | ⟨c,e⟩ <;> rw [e] <;> rfl
  | cst ds=>rcases this.1 with ⟨c,e⟩ | ⟨c,e⟩ <;> rw [e] <;> rfl
  | tok v sz=>obtain ⟨v',sz',e⟩:=this; rw [e]; rfl
  | arr v sz xs=>obtain ⟨v',xs',e,_⟩:=this; rw [e]; rfl
  | map kvs=>obtain ⟨⟨k',e⟩,_⟩:=this; rw [e]; rfl
  | lp j key caps=>obtain ⟨⟨j',c',e⟩,_⟩:=this; rw [e]; rfl
theorem z5u {tm tm':List (Nat × V)}{h:List (Option Obj)}{n i:Nat}:(⟨tm,h.take n⟩:St).obj i=if i < n then (⟨tm',h⟩:St).obj i else none:=by
 unfold St.obj
 simp only
 rw [List.getElem?_take]
 split <;> rfl
theorem Zei {nt:Nat}{g0:Gh}{ob0:Nat→Option Obj}{w0:World}{s:St}{a:Act}{n:Nat}{tm:List (Nat × V)}(h:Go1 tab nt g0 ob0 w0 ds g (za1 tm) s.obj a w)(h0:∀ i,(ob0 i).isSome=true→i < n)(h1:zcl n tm=true)(h2:(s.heap.take n).all (Obj.under n)=true) :
  Go1 tab nt g0 ob0 w0 ds g (za1 tm) (⟨tm,s.heap.take n⟩:St).obj a w:=by
 have hob:∀ i,(⟨tm,s.heap.take n⟩:St).obj i=if i < n then s.obj i else none:=fun i=>z5u
 have ho:∀ i,i < n→(⟨tm,s.heap.take n⟩:St).obj i=s.obj i:=fun i hi=>by rw [hob,if_pos hi]
 have hsome:∀ i o,(⟨tm,s.heap.take n⟩:St).obj i=some o→i < n∧s.obj i=some o:=fun i o h=>by
  rw [hob] at h
  split at h
  ·rename_i hi; exact ⟨hi,h⟩
  ·cases h
 have hown:∀ i b o,zbf g (⟨tm,s.heap.take n⟩:St).obj i b o→zbf g s.obj i b o:=fun i b o h=>by
  rcases Qn i n with hi | hi
  ·unfold zbf at h ⊢; rw [ho i hi] at h; exact h
  ·unfold zbf at h; rw [hob,if_neg (by omega)] at h; exact h.elim
 have hund:∀ i o,(⟨tm,s.heap.take n⟩:St).obj i=some o→Obj.under n (some o)=true:=fun i o h=>by
  unfold St.obj at h
  simp only at h
  cases hg:(s.heap.take n)[i]? with
  | none=>rw [hg] at h; cases h
  | some x =>
   rw [hg] at h
   simp only [Option.join_some] at h
   subst h
   exact List.all_eq_true.1 h2 _ (List.mem_of_getElem? hg)
 have hlook:∀ (l:List (Nat × V)) t,zcl n l=true→V.under n (za1 l t)=true:=by
  intro l
  induction l with
  | nil=>intro t _; rfl
  | cons p l ih =>
   obtain ⟨i,v⟩:=p
   intro t hu
   simp only [zcl,Qi] at hu
   rw [zb0]
   split
   ·exact hu.1
   ·exact ih t hu.2
 refine ⟨⟨fun t=>zag.under ho _ _ (hlook tm t h1) (h.rel.tmp t),h.rel.size, ?_⟩,z1k h.evo hown (fun i=>?_),h.df⟩
 rotate_left
 ·have:=h.evo.kevo i
  cases hb:ob0 i with
  | none=>trivial
  | some o =>
   rw [hb] at this
   rw [ho i (h0 i (by rw [hb]; rfl))]
   exact this
 refine zwf h.rel.heap hown (fun i hm b o hb kvs e=>?_) (fun i o hi=>?_)
 ·rcases Qn i n with hi | hi
  ·exact hm kvs (by rw [ho i hi]; exact e)
  ·unfold zbf at hb; rw [hob,if_neg (by omega)] at hb; exact hb
 ·obtain ⟨hin,hio⟩:=hsome i o hi
  have hr:=h.rel.heap.ob i o hio
  have hu:=hund i o hi
  cases o with
  | box cs =>
   obtain ⟨k1,us,k2,k3⟩:=hr
   exact ⟨k1,us,zai.under ho cs us hu k2,k3⟩
  | cst ds=>exact hr
  | tok v sz=>exact hr
  | arr v sz xs =>
   obtain ⟨k1,k2,k3,k4⟩:=hr
   refine ⟨k1,k2,k3,fun j r q x h5 h6=>?_⟩
   obtain ⟨u,m1,m2,m3⟩:=k4 j r q x h5 h6
   refine ⟨u,m1,zag.under ho x u ?_ m2,m3⟩
   have all1:∀ (xs:List V) (x:V),V.underAll n xs=true→x ∈ xs→V.under n x=true:=by
    intro xs x
    induction xs with
    | nil=>intro _ h; cases h
    | cons y xs ih =>
     intro hu hx
     simp only [V.underAll,Qi] at hu
     rcases List.mem_cons.1 hx with rfl | hx
     ·exact hu.1
     ·exact ih hu.2 hx
   have all2:∀ (xs:List (List V)) (r:List V),zbr n xs=true→r ∈ xs→V.underAll n r=true:=by
    intro xs r
    induction xs with
    | nil=>intro _ h; cases h
    | cons y xs ih =>
     intro hu hx
     simp only [zbr,Qi] at hu
     rcases List.mem_cons.1 hx with rfl | hx
     ·exact hu.1
     ·exact ih hu.2 hx
   exact all1 r x (all2 xs r hu (List.mem_of_getElem? h5)) (List.mem_of_getElem? h6)
  | map kvs =>
   obtain ⟨es,cl,k1,kv,hp,hn,hb,hd,k2⟩:=hr
   have m:∀ l:List (List D × V),zct n l=true ↔ ∀ p ∈ l,V.under n p.2=true:=by
    intro l
    induction l with
    | nil=>simp [zct]
    | cons p l ih=>obtain ⟨k,v⟩:=p; simp [zct,ih]
   exact ⟨es,cl,k1,kv,hp,hn,hb,hd,zay.under ho kv _ ((m kv).2 fun p h=>(m kvs).1 hu p (hp.mem_iff.1 h)) k2⟩
  | lp j key caps =>
   obtain ⟨r,R,h1,h2,h3,h4,h5,h6,h7,h8,h9⟩:=hr
   exact ⟨r,R,h1,h2,h3,h4,h5,h6,h7,h8,zaf.under ho caps _ hu h9⟩
mutual
theorem zag.fine (h1:∀ i,zhd (obj i)→zhd (obj' i))(h2:∀ i kvs,obj i=some (.map kvs)→∃ kvs',obj' i=some (.map kvs'))(h3:∀ i j key caps,obj i=some (.lp j key caps)→∃ j' caps',obj' i=some (.lp j' key caps')):∀ (x:V) (v:Value),V.fine x=true→zag tab g obj w x v→zag tab g obj' w x v
 | .d x,v,_,h=>by simp only [zag] at *; exact h
 | .nil _,v,_,h=>by simp only [zag] at *; exact h
 | .own id ver sz xs,v,hu,h=>by simp [V.fine] at hu
 | .arr id ver off len,v,hu,h=>by simp [V.fine] at hu
 | .ptr id off,v,hu,h=>by
  simp only [zag] at *
  exact ⟨h1 id h.1,h.2⟩
 | .pm id ver idx off,v,hu,h=>by simp [V.fine] at hu
 | .map id,v,hu,h=>by
  simp only [zag] at *
  obtain ⟨⟨kvs,hk⟩,hv⟩:=h
  exact ⟨h2 id kvs hk,hv⟩
 | .fn key a c,v,hu,h=>by
  simp only [V.fine,Qi] at hu
  simp only [zag] at *
  rcases h with ⟨fid,fs,cs,k1,k2,k3,k4,k5⟩ | ⟨id,k1,k2,k3,j,caps,k4⟩
  ·exact .inl ⟨fid,fs,cs,k1,k2,zaf.fine h1 h2 h3 a fs hu.1 k3,zaf.fine h1 h2 h3 c cs hu.2 k4,k5⟩
  ·exact .inr ⟨id,k1,k2,k3,h3 id j key caps k4⟩
 | .agg cs,v,hu,h=>by simp [V.fine] at hu
 | .tup ws,v,hu,h=>by simp [V.fine] at hu
 | .bad,v,_,_=>by simp only [zag]
theorem zaf.fine (h1:∀ i,zhd (obj i)→zhd (obj' i))(h2:∀ i kvs,obj i=some (.map kvs)→∃ kvs',obj' i=some (.map kvs'))(h3:∀ i j key caps,obj i=some (.lp j key caps)→∃ j' caps',obj' i=some (.lp j' key caps')):∀ (xs:List V) (vs:List Value),V.fineAll xs=true→zaf tab g obj w xs vs→zaf tab g obj' w xs vs
 | [],[],_,_=>by simp only [zaf]
 | x :: xs,v :: vs,hu,h=>by
  simp only [V.fineAll,Qi] at hu
  simp only [zaf] at *
  exact ⟨zag.fine h1 h2 h3 x v hu.1 h.1,zaf.fine h1 h2 h3 xs vs hu.2 h.2⟩
 | [],_ :: _,_,h=>by simp only [zaf] at h
 | _ :: _,[],_,h=>by simp only [zaf] at h
end
theorem z9z {nt:Nat}{g0:Gh}{ob0:Nat→Option Obj}{w0:World}{a:Act}{tm tm':List (Nat × V)}{h:List (Option Obj)}(hR:Go1 tab nt g0 ob0 w0 ds g (za1 tm) (⟨tm,h⟩:St).obj a w) :
  Go1 tab nt g0 ob0 w0 ds g (za1 (zdi h tm)) (⟨tm',h.map (zbp h)⟩:St).obj a w:=by
 generalize hob:(⟨tm,h⟩:St).obj=obj at hR
 have hobj:∀ i,(h[i]?).join=obj i:=fun i=>by rw [← hob]; rfl
 have hob':∀ i,(⟨tm',h.map (zbp h)⟩:St).obj i=zbp h (obj i):=fun i=>by
  rw [← hobj]
  unfold St.obj
  simp only [List.getElem?_map]
  cases h[i]? <;> rfl
 generalize (⟨tm',h.map (zbp h)⟩:St).obj=obj' at hob'
 have b1:∀ i,zhd (obj i)→zhd (obj' i):=fun i hi=>by
  rcases hi with ⟨cs,hi⟩ | ⟨ds,hi⟩
  ·exact .inl ⟨_,by rw [hob',hi]; rfl⟩
  ·exact .inr ⟨_,by rw [hob',hi]; rfl⟩
 have b2:∀ i kvs,obj i=some (.map kvs)→∃ kvs',obj' i=some (.map kvs'):=fun i kvs hi=>⟨_,by rw [hob',hi]; rfl⟩
 have b3:∀ i j key caps,obj i=some (.lp j key caps)→∃ j' caps',obj' i=some (.lp j' key caps'):=fun i j key caps hi=>⟨_,_,by rw [hob',hi]; rfl⟩
 have nc:∀ x v,zag tab g obj w x v→zag tab g obj' w (zc5 h x) v:=by
  intro x v hx
  have rest:(∀ a b c d,x ≠ .own a b c d)→(∀ a b c d,x ≠ .arr a b c d)→zag tab g obj' w (if x.fine then x else .bad) v:=fun _ _=>by
   split
   ·rename_i hf; exact zag.fine b1 b2 b3 x v hf hx
   ·simp only [zag]
  cases x with
  | own id ver sz xs =>
   simp only [zag] at hx
   obtain ⟨k1,ver',sz',k2,k3,k4⟩:=hx
   simp only [zc5,hobj,k2]
   split
   ·rename_i e
    simp only [zag]
    exact ⟨k1,0,sz',by rw [hob',k2]; rfl,Nat.le_refl _,fun _=>k4 e⟩
   ·simp only [zag]; exact k1
  | arr id ver off len =>
   simp only [zag] at hx
   obtain ⟨k1,ver',sz,xs,k2,k3,k4⟩:=hx
   simp only [zc5,hobj,k2]
   split
   ·rename_i e
    simp only [zag]
    exact ⟨k1,ver',sz,_,by rw [hob',k2]; rfl,k3,fun e=>by simpa using k4 e⟩
   ·simp only [zag]
  | _=>exact rest (by simp) (by simp)
 have ncs:∀ cs us,zai tab g obj w cs us→zai tab g obj' w (cs.map (zc5 h)) us:=by
  intro cs
  induction cs with
  | nil=>intro us hc; cases us with | nil=>simp [zai] | cons=>simp only [zai] at hc
  | cons c cs ih =>
   intro us hc
   cases us with
   | nil=>simp only [zai] at hc
   | cons u us=>simp only [Qb,zai] at *; exact ⟨nc _ _ hc.1,hc.2.1,ih us hc.2.2⟩
 have nv:∀ x v,zag tab g obj w x v→zag tab g obj' w (zdq h x) v:=by
  intro x v hx
  cases x with
  | agg cs =>
   simp only [zag] at hx
   obtain ⟨vs,k1,k2⟩:=hx
   simp only [zdq,zag]
   exact ⟨vs,k1,ncs cs vs k2⟩
  | tup ws =>
   cases ws with
   | nil=>simp only [zdq,zag] at *; exact hx.imp fun vs k=>⟨k.1,by have:=k.2; cases vs with | nil=>simp only [zaf] | cons=>simp only [zaf] at this⟩
   | cons=>exact nc _ _ hx
  | _=>exact nc _ _ hx
 have hown:∀ i b o,zbf g obj' i b o→zbf g obj i b o:=fun i b o ho=>by
  unfold zbf at ho ⊢
  rw [hob'] at ho
  cases hi:obj i with
  | none=>rw [hi] at ho; exact ho
  | some ob=>rw [hi] at ho; cases ob <;> exact ho
 have kev:z11 g obj g obj':=fun i=>by
  rw [hob']
  cases hi:obj i with
  | none=>trivial
  | some o =>
   cases o with
   | box cs=>exact ⟨.inl ⟨_,rfl⟩,rfl⟩
   | cst ds=>exact ⟨.inr ⟨_,rfl⟩,rfl⟩
   | tok v sz=>exact ⟨_,_,rfl⟩
   | arr v sz xs=>exact ⟨v,_,rfl,Nat.le_refl _,fun _=>⟨by simp,rfl⟩⟩
   | map kvs=>exact ⟨⟨_,rfl⟩,rfl⟩
   | lp j key caps=>exact ⟨⟨_,_,rfl⟩,rfl⟩
 have hlook:∀ (l:List (Nat × V)) t,za1 (zdi h l) t=zdq h (za1 l t):=by
  intro l
  induction l with
  | nil=>intro t; rfl
  | cons p l ih =>
   obtain ⟨i,v⟩:=p
   intro t
   simp only [zdi,zb0]
   split
   ·rfl
   ·exact ih t
 refine ⟨⟨fun t=>by rw [hlook]; exact nv _ _ (hR.rel.tmp t),hR.rel.size, ?_⟩,z1k hR.evo hown (hR.evo.kevo.trans kev),hR.df⟩
 refine zwf hR.rel.heap hown (fun i hm b o hb kvs e=>?_) (fun i o hi=>?_)
 ·obtain ⟨kvs',hk⟩:=b2 i kvs e
  exact hm kvs' hk
 ·rw [hob'] at hi
  cases hio:obj i with
  | none=>rw [hio] at hi; simp [zbp] at hi
  | some ob =>
   have hr:=hR.rel.heap.ob i ob hio
   rw [hio] at hi
   cases ob with
   | box cs =>
    simp only [zbp,Qa] at hi
    subst hi
    obtain ⟨k1,us,k2,k3⟩:=hr
    exact ⟨by simpa using k1,us,ncs cs us k2,k3⟩
   | cst ds=>simp only [zbp,Qa] at hi; subst hi; exact hr
   | tok v sz=>simp only [zbp,Qa] at hi; subst hi; exact hr
   | arr v sz xs =>
    simp only [zbp,Qa] at hi
    subst hi
    obtain ⟨k1,k2,k3,k4⟩:=hr
    refine ⟨fun r hr=>?_,by simpa using k2,k3,fun j r q x h5 h6=>?_⟩
    ·obtain ⟨r',m1,rfl⟩:=List.mem_map.1 hr
     simpa using k1 r' m1
    ·rw [List.getElem?_map] at h5
     obtain ⟨r',m1,rfl⟩:=Option.map_eq_some_iff.1 h5
     rw [List.getElem?_map] at h6
     obtain ⟨x',m2,rfl⟩:=Option.map_eq_some_iff.1 h6
     obtain ⟨u,m3,m4,m5⟩:=k4 j r' q x' m1 m2
     exact ⟨u,m3,nc _ _ m4,m5⟩
   | map kvs =>
    simp only [zbp,Qa] at hi
    subst hi
    obtain ⟨es,cl,k1,kv,hp,hn,hb,hd,k2⟩:=hr
    refine ⟨es,cl,k1,kv.map fun p=>(p.1,zdq h p.2),hp.map _,by rw [List.map_map]; exact hn,hb,hd, ?_⟩
    have:∀ (kvs:List (List D × V)) (es:List MapEntry),zay tab g obj w kvs es→zay tab g obj' w (kvs.map fun p=>(p.1,zdq h p.2)) es:=by
     intro kvs
     induction kvs with
     | nil=>intro es he; cases es with | nil=>simp [zay] | cons=>simp only [zay] at he
     | cons p kvs ih =>
      intro es he
      cases es with
      | nil=>simp only [zay] at he
      | cons e es=>simp only [Qb,zay] at *; exact ⟨he.1,nv _ _ he.2.1,ih es he.2.2⟩
    exact this kv _ k2
   | lp j key caps =>
    simp only [zbp,Qa] at hi
    subst hi
    obtain ⟨r,R,h1,h2,h3,h4,h5,h6,h7,h8,h9⟩:=hr
    refine ⟨r,R,h1,h2,h3,h4,h5,h6,h7,h8, ?_⟩
    have:∀ (xs:List V) (us:List Value),zaf tab g obj w xs us→zaf tab g obj' w (xs.map (zdq h)) us:=by
     intro xs
     induction xs with
     | nil=>intro us he; cases us with | nil=>simp [zaf] | cons=>simp only [zaf] at he
     | cons x xs ih =>
      intro us he
      cases us with
      | nil=>simp only [zaf] at he
      | cons u us=>simp only [Qb,zaf] at *; exact ⟨nv _ _ he.1,ih us he.2⟩
    exact this caps _ h9
theorem z90 {nt:Nat}{g0:Gh}{ob0:Nat→Option Obj}{w0:World}{ann:Ann}{n:Nat}{s s':St}{a:Act}(h:Go1 tab nt g0 ob0 w0 ds g s.get s.obj a w)(h0:∀ i,(ob0 i).isSome=true→i < n)(hb:zkt ann n s=some s'):Go1 tab nt g0 ob0 w0 ds g s'.get s'.obj a w:=by
 unfold zkt at hb
 simp only at hb
 have h:=z1j ann h
 generalize z3a ann s=s at h hb
 have hk:Go1 tab nt g0 ob0 w0 ds g (za1 (zcs s ann.keep)) s.obj a w:=h.weaken fun t=>zm8 s ann.keep t
 split at hb
 ·split at hb
  ·rename_i hc
   simp only [Qi] at hc
   simp only [Qa] at hb
   subst hb
   exact z9z (Zei hk h0 hc.1 hc.2)
  ·cases hb
 ·simp only [Qa] at hb
  subst hb
  exact hk
end
open Go
open Go.RowKit (Below)
def Zej:Ex→Exit
 | .normal=>.normal
 | .exit id=>.exit id
 | .ret=>.ret
theorem zea {P:Program}{b:Frame}{a:Act}{k:List Item}{cs:List Frame}{w:World}{c:Code}:step P (lone (b.atR a (.code (.scope c) :: k)) cs w) = .next (lone (b.atR a (.code c :: .inScope c :: k)) cs w) :=
 step_lone_go (by simp [stepG,stepG.exec,Frame.atR])
theorem zql {P:Program}{b:Frame}{a:Act}{k:List Item}{cs:List Frame}{w:World}{c:Code}:step P (lone (b.atR a (.inScope c :: k)) cs w) = .next (lone (b.atR a k) cs w) :=
 step_lone_go (by simp [stepG,stepG.exec,Frame.atR])
theorem zit {F:Fence}{n:Nat}{P:Program}{Q:Exit→Act→World→Prop}{a:Act}{w:World}{c:Code}(h:c.wpIn F n P (Exit.noGoto Q) a w):(Code.scope c).wpIn F n P Q a w:=by
 intro b k cs hro hb hr
 have h0:(lone (b.atR a (.code (.scope c) :: k)) cs w).fenced P F:=fenced_calm hb hr rfl
 obtain ⟨e,a₁,w₁,hq,harr⟩:=h b (.inScope c :: k) cs hro hb hr
 cases e with
 | normal=>exact ⟨.normal,a₁,w₁,hq,.head h0 zea (StepsIn.trans harr (.one (fenced_calm hb hr rfl) zql))⟩
 | exit id =>
  have hx:exitTo id (.inScope c :: k)=exitTo id k:=by simp [exitTo]
  exact ⟨.exit id,a₁,w₁,hq,fun k' hk=>.head h0 zea (harr.1 k' (by rw [hx]; exact hk)),
   fun hr' hk=>let ⟨k₁,h1,h2⟩:=harr.2 hr' (by rw [hx]; exact hk); ⟨k₁,h1,.head h0 zea h2⟩⟩
 | goto l=>exact hq.elim
 | ret=>exact ⟨_,a₁,w₁,hq,.of_steps (.one h0 zea) harr⟩
 | panic ch=>exact ⟨_,a₁,w₁,hq,.of_steps (.one h0 zea) harr⟩
 | outgrown=>exact ⟨_,a₁,w₁,hq,.of_steps (.one h0 zea) harr⟩
structure Marks (n:Nat)(ds:List Deferred)(w:World):Prop where
 all:∀ d ∈ ds,∃ D,d={ target:=.collected D,args:=#[] }∧n ≤ D∧w.heap[D]?=some (.deferred (some []))
 diff:ds.Pairwise fun a b=>a.target ≠ b.target
theorem Evo.deferred {g:Gh}{obj:Nat→Option Obj}{w:World}{g':Gh}{obj':Nat→Option Obj}{w':World}(h:Evo g obj w g' obj' w'){D:Nat}{x:Option (List Deferred)}(hd:w.heap[D]?=some (.deferred x)):w'.heap[D]?=some (.deferred x):=by
 have hlt:D < w.heap.size:=(Array.getElem?_eq_some_iff.1 hd).1
 rcases h.blk D hlt with k | ⟨c,c',t,fr,k,_⟩ | ⟨es,cl,es',cl',k,_⟩ | ⟨r,st,pe,k,_⟩
 ·rw [k]; exact hd
 ·rw [hd] at k; cases k
 ·rw [hd] at k; cases k
 ·rw [hd] at k; cases k
theorem Marks.evo {n:Nat}{ds:List Deferred}{w w':World}(h:Marks n ds w){g:Gh}{obj:Nat→Option Obj}{g':Gh}{obj':Nat→Option Obj}(he:Evo g obj w g' obj' w'):Marks n ds w' :=
 ⟨fun d hd=>let ⟨D,h1,h2,h3⟩:=h.all d hd; ⟨D,h1,h2,he.deferred h3⟩,h.diff⟩
structure Go2 (tab:Tab)(nt:Nat)(g0:Gh)(ob0:Nat→Option Obj)(w0:World)(g:Gh)(get:Nat→V)(obj:Nat→Option Obj)(a:Act)(w:World):Prop where
 go:Go1 tab nt g0 ob0 w0 a.defers g get obj a w
 mks:Marks w0.heap.size a.defers w
def zna (tab:Tab)(nt:Nat)(o:Nat × Array Nat × Code × Code × List Nat):Prop :=
 ∃ R,zsy tab o.1=some R∧R.ps=o.2.1∧R.assign=o.2.2.1∧R.body=o.2.2.2.1∧R.ks=o.2.2.2.2∧R.nt ≤ nt
theorem zjz {P:Program}{tab:Tab}{nt:Nat}:∀ (c:Code) {cc:CCode} {m m':Notes},comp P tab nt c m=some (cc,m')→∀ o ∈ m.outs,o ∈ m'.outs:=by
 intro c
 induction c with
 | region id ops draw =>
  intro cc m m' hc o ho
  simp only [comp] at hc
  split at hc
  ·split at hc
   ·simp only [Qa,Qj] at hc; obtain ⟨_,rfl⟩:=hc; exact ho
   ·cases hc
  ·cases hc
 | seq x y ihx ihy =>
  intro cc m m' hc o ho
  simp only [comp] at hc
  split at hc
  ·rename_i h1
   split at hc
   ·rename_i h2
    simp only [Qa,Qj] at hc; obtain ⟨_,rfl⟩:=hc
    exact ihy h2 o (ihx h1 o ho)
   ·cases hc
  ·cases hc
 | cond c x y ihx ihy =>
  intro cc m m' hc o ho
  simp only [comp] at hc
  split at hc
  ·split at hc
   ·rename_i h1
    split at hc
    ·rename_i h2
     simp only [Qa,Qj] at hc; obtain ⟨_,rfl⟩:=hc
     exact ihy h2 o (ihx h1 o ho)
    ·cases hc
   ·cases hc
  ·cases hc
 | block id c ih =>
  intro cc m m' hc o ho
  simp only [comp] at hc
  split at hc
  ·rename_i h1
   simp only [Qa,Qj] at hc; obtain ⟨_,rfl⟩:=hc
   exact ih h1 o ho
  ·cases hc
 | loop c ih =>
  intro cc m m' hc o ho
  simp only [comp] at hc
  split at hc
  ·split at hc
   ·rename_i h1
    simp only [Qa,Qj] at hc; obtain ⟨_,rfl⟩:=hc
    exact ih h1 o ho
   ·cases hc
  ·cases hc
 | scope c ih =>
  intro cc m m' hc o ho
  simp only [comp] at hc
  exact ih hc o ho
 | rangeFunc f ps a b =>
  intro cc m m' hc o ho
  simp only [comp] at hc
  split at hc
  ·simp only [Qa,Qj] at hc; obtain ⟨_,rfl⟩:=hc
   exact List.mem_cons_of_mem _ ho
  ·cases hc
 | skip=>intro cc m m' hc o ho; simp only [comp,Qa,Qj] at hc; obtain ⟨_,rfl⟩:=hc; exact ho
 | label=>intro cc m m' hc o ho; simp only [comp,Qa,Qj] at hc; obtain ⟨_,rfl⟩:=hc; exact ho
 | exit=>intro cc m m' hc o ho; simp only [comp,Qa,Qj] at hc; obtain ⟨_,rfl⟩:=hc; exact ho
 | ret=>intro cc m m' hc o ho; simp only [comp,Qa,Qj] at hc; obtain ⟨_,rfl⟩:=hc; exact ho
 | _=>intro cc m m' hc; simp [comp] at hc
section
variable {P:Program} {tab:Tab} {call:za0} {ds:List Deferred}
theorem zx6 {P:Program}{rd:Option Nat}{w:World}{n0:Nat}{ds:List Deferred}(hn:n0 ≤ w.heap.size)(hm:Marks n0 ds w)(hl:∀ l0,rd=some l0→∃ r,w.heap[l0]?=some (.loop r))(fn:FuncId)(tmps:Array Value)(ps:Array Tmp)(assign body:Code) :
  ∃ l mark w₁ D,(Instr.enterLoop fn tmps ps assign body rd).run P w = .ok (l,mark) w₁∧w₁.heap[l]?=some (.loop { state:=.ready,pending:=none,fn,tmps,params:=ps,assign,body,defers:=D }) ∧
   (∀ b,b < w.heap.size→w₁.heap[b]?=w.heap[b]?)∧w.heap.size ≤ l∧l < w₁.heap.size∧w.heap.size ≤ w₁.heap.size∧w₁.os=w.os∧w₁.tape=w.tape∧w₁.output=w.output∧Marks n0 (mark++ds) w₁:=by
 have keep1:∀ (w:World) (o:Go.Obj) b,b < w.heap.size→(w.alloc o).heap[b]?=w.heap[b]?:=fun w o b hb=>by
  show (w.heap.push o)[b]?=_
  rw [Array.getElem?_push,if_neg (by omega)]
 have new1:∀ (w:World) (o:Go.Obj),(w.alloc o).heap[w.heap.size]?=some o:=fun w o=>by
  show (w.heap.push o)[w.heap.size]?=_
  simp
 have sz1:∀ (w:World) (o:Go.Obj),(w.alloc o).heap.size=w.heap.size + 1:=fun w o=>Array.size_push ..
 cases rd with
 | none =>
  refine ⟨w.heap.size + 1,_,_,w.heap.size,run_enterLoop_outer fn tmps ps assign body, ?_,fun b hb=>?_,by omega, ?_, ?_,rfl,rfl,rfl,⟨fun d hd=>?_, ?_⟩⟩
  ·have:=new1 (w.alloc (.deferred (some []))) (.loop { state:=.ready,pending:=none,fn,tmps,params:=ps,assign,body,defers:=w.heap.size })
   rw [sz1] at this
   exact this
  ·rw [keep1 _ _ _ (by rw [sz1]; omega),keep1 _ _ _ hb]
  ·rw [sz1,sz1]; omega
  ·rw [sz1,sz1]; omega
  ·rcases List.mem_append.1 hd with hd | hd
   ·simp only [List.mem_singleton] at hd
    exact ⟨w.heap.size,hd,hn,by rw [keep1 _ _ _ (by rw [sz1]; omega)]; exact new1 _ _⟩
   ·obtain ⟨D,h1,h2,h3⟩:=hm.all d hd
    have hlt:D < w.heap.size:=(Array.getElem?_eq_some_iff.1 h3).1
    exact ⟨D,h1,h2,by rw [keep1 _ _ _ (by rw [sz1]; omega),keep1 _ _ _ hlt]; exact h3⟩
  ·refine List.pairwise_cons.2 ⟨fun d hd e=>?_,hm.diff⟩
   obtain ⟨D,h1,_,h3⟩:=hm.all d hd
   have hlt:D < w.heap.size:=(Array.getElem?_eq_some_iff.1 h3).1
   rw [h1] at e
   simp only [Target.collected.injEq] at e
   omega
 | some l0 =>
  obtain ⟨r,hr⟩:=hl l0 rfl
  refine ⟨w.heap.size,_,_,r.defers,run_enterLoop_inner hr fn tmps ps assign body,new1 _ _,fun b hb=>keep1 _ _ _ hb,Nat.le_refl _, ?_, ?_,rfl,rfl,rfl,⟨fun d hd=>?_,hm.diff⟩⟩
  ·rw [sz1]; omega
  ·rw [sz1]; omega
  ·obtain ⟨D,h1,h2,h3⟩:=hm.all d hd
   have hlt:D < w.heap.size:=(Array.getElem?_eq_some_iff.1 h3).1
   exact ⟨D,h1,h2,by rw [keep1 _ _ _ hlt]; exact h3⟩
theorem zph {tab:Tab}{g:Gh}{obj:Nat→Option Obj}{w:World}{get:Nat→V}{tmps:Array Value}(h:∀ t,zag tab g obj w (get t) (tmps.getD t undef)):∀ ks:List Nat,zaf tab g obj w (ks.map get) (ks.map fun t=>tmps.getD t undef)
 | []=>by simp only [Qc,zaf]
 | t :: ts=>by simp only [Qb,zaf]; exact ⟨h t,zph h ts⟩
theorem z1m {tm tm':List (Nat × V)}(h:List (Option Obj))(o:Obj)(n:Nat):(⟨tm,h++some o :: List.replicate n none⟩:St).obj=zby (⟨tm',h⟩:St).obj h.length (some o):=by
 rw [show h++some o :: List.replicate n none=(h++[some o])++List.replicate n none by simp,← zl4 (tm:=tm)]
 funext q
 unfold St.obj
 simp only
 rcases Qn q (h++[some o]).length with h1 | h1
 ·rw [List.getElem?_append_left h1]
 ·rw [List.getElem?_append_right h1,Qe h1,List.getElem?_replicate]
  split <;> rfl
theorem zqm {tab:Tab}{g:Gh}{obj:Nat→Option Obj}{w:World}{x y:V}{v u:Value}{k:Nat}{vs:List V}(h:zei x y=some (k,vs))(hx:zag tab g obj w x v)(hy:zag tab g obj w y u) :
  ∃ fid fs cs,zfh tab fid=some k∧v = .func (.func fid) (List.toArray fs) (List.toArray cs)∧zaf tab g obj w vs (fs++[u]++cs):=by
 have h1:zaf tab g obj w [y] [u]:=by simp only [zaf]; exact ⟨hy,trivial⟩
 unfold zei at h
 split at h
 ·simp only [Qa,Qj] at h
  obtain ⟨rfl,rfl⟩:=h
  simp only [zag,za6] at hx
  obtain ⟨fid,fs,cs,k1,k2,k3,k4⟩:=hx
  exact ⟨fid,fs,cs,k1,k2,((zaf.ofDs (g:=g) k3).append h1).append (zaf.ofDs (g:=g) k4)⟩
 ·cases h
 ·rename_i hne
  simp only [Qa,Qj] at h
  obtain ⟨rfl,rfl⟩:=h
  simp only [zag] at hx
  rcases hx with ⟨fid,fs,cs,k1,k2,k3,k4,k5⟩ | ⟨id,rfl,_⟩
  ·exact ⟨fid,fs,cs,k1,k2,(k3.append h1).append k4⟩
  ·exact absurd rfl (hne _)
 ·cases h
theorem znb {tab:Tab}{g g':Gh}{obj obj':Nat→Option Obj}{w w':World}(h:∀ x v,zag tab g obj w x v→zag tab g' obj' w' x v):∀ (xs:List V) (us:List Value),zaf tab g obj w xs us→zaf tab g' obj' w' xs us
 | [],[],_=>by simp only [zaf]
 | x :: xs,u :: us,k=>by simp only [zaf] at *; exact ⟨h _ _ k.1,znb h xs us k.2⟩
 | [],_ :: _,k=>by simp only [zaf] at k
 | _ :: _,[],k=>by simp only [zaf] at k
theorem zuk {rd:Option Nat}{dp:Nat}(hB:zg1 P tab)(hCall:CallOk P tab call){nt:Nat}{g0:Gh}{ob0:Nat→Option Obj}{w0:World}
  (hrd:∀ l0,rd=some l0→∃ id j k c,ob0 id=some (.lp j k c)∧(g0.at_ id).blk=l0) {f:Operand} {ps:Array Nat} {assign body:Code} {f':A} {key res:Nat} {ks:List Nat} (hf:zcu P tab none f=some f')
  (hO:zna tab nt (key,ps,assign,body,ks)) {s s':St} {ex:Ex} (hx:ze8 call f' key ks res s=some (ex,s')) {g:Gh} {a:Act} {w:World} (hR:Go2 tab nt g0 ob0 w0 g s.get s.obj a w)
  {Q:Exit→Act→World→Prop} (hQ:∀ g' a' w',Go2 tab nt g0 ob0 w0 g' s'.get s'.obj a' w'→Q (Zej ex) a' w'):(Code.rangeFunc f ps assign body).wpIn (fen rd) dp P Q a w:=by
 unfold ze8 at hx
 simp only at hx
 split at hx
 ·cases hx
 ·rename_i k vs hargs
  split at hx
  ·cases hx
  ·rename_i r is os ns hent
   split at hx
   ·rename_i j key' caps hlp
    split at hx
    ·rename_i ex' hex
     simp only [Qa,Qj] at hx
     obtain ⟨rfl,rfl⟩:=hx
     obtain ⟨R,hR1,hps,has,hbd,hks,hnt⟩:=hO
     simp only at hR1 hps has hbd hks
     have hH:=hR.go.rel.heap
     refine wpIn_rangeFunc ?_
     intro fn _
     have hl0:∀ l0,rd=some l0→∃ r,w.heap[l0]?=some (.loop r):=fun l0 e=>by
      obtain ⟨id,j0,k0,c0,h1,h2⟩:=hrd l0 e
      have hk:=hR.go.evo.kevo id
      rw [h1] at hk
      obtain ⟨⟨j1,c1,h3⟩,h4⟩:=hk
      obtain ⟨r,_,h5,_⟩:=hH.ob id _ h3
      exact ⟨r,by rw [← h2,← h4]; exact h5⟩
     obtain ⟨l,mark,w₁,D,hrun,hloop,hkeep,hlo,hhi,hsz,hos,htape,hout,hmk⟩:=zx6 (P:=P) hR.go.evo.size hR.mks hl0 fn a.tmps ps assign body
     have hfresh:s.obj s.heap.length=none:=by unfold St.obj; rw [Qe (Nat.le_refl _)]; rfl
     obtain ⟨hH1,hE1,hv1⟩:=zgd (w':=w₁) hH s.heap.length (.lp 0 key (ks.map s.get)) ⟨l,0,0⟩ g.im hos htape hout hsz
      (fun b hb=>.inl (hkeep b hb)) (fun _ _ h=>h) (fun _ _ h=>.inl h)
      (fun b o h=>by
       unfold zbf at h
       simp only [zao,zap] at h
       subst h
       exact ⟨.inr ⟨hlo,hhi⟩,fun hi=>by have:=hH.imOld _ _ hi; omega⟩)
      (fun b o h _ q=>by
       unfold zbf at h
       simp only [zao,zap] at h
       subst h
       unfold World.frozen?
       simp only [hloop])
      (.fresh hfresh _ _ _)
      (fun hv=>⟨_,R,hloop,⟨rfl,rfl⟩,hR1,rfl,hps.symm,has.symm,hbd.symm,Nat.le_trans hnt hR.go.rel.size,by
       rw [hks]
       exact zph (fun t=>hv _ _ (hR.go.rel.tmp t)) ks⟩)
     have hob:=z1m (tm:=s.tmps) (tm':=s.tmps) s.heap (.lp 0 key (ks.map s.get)) res
     have hy:zag tab ⟨zdj g.at_ s.heap.length ⟨l,0,0⟩,g.im⟩ (zby s.obj s.heap.length (some (.lp 0 key (ks.map s.get)))) w₁ (.fn key [.map s.heap.length] []) (.func (.yield l) #[] #[]):=by
      unfold zag
      exact .inr ⟨_,rfl,rfl,by simp only [zap],0,_,zao ..⟩
     have hfv:=hv1 _ _ (zaj (w:=w) hf hR.go.rel.tmp)
     rw [z99] at hargs
     obtain ⟨fid,fs,cs,q1,q2,q3⟩:=zqm hargs hfv hy
     rw [hob] at hent
     refine ⟨l,mark,w₁,{ target:=.fn (.func fid) (List.toArray cs),args:=List.toArray fs++#[.func (.yield l) #[] #[]] },w₁,fid,(fs++[Value.func (.yield l) #[] #[]]++cs).toArray,w₁,hrun, ?_,fun _ _=>trivial, ?_,fun e=>by simp [Fence.wide] at e, ?_⟩
     ·simp only [resolve,q2]
      simp [Deferred.ofValue,Act.eval]
     ·simp [invoke,hB fid k q1]
     ·refine znx ((zpq (hCall.fn fid k q1) hH1 q3 hent (fun kk hkk=>?_)).mono fun e w₃ ⟨v,g3,he,hP,_⟩=>?_)
      ·rw [zco _ _ (by omega)]
       unfold St.obj
       rw [Qe (by omega)]; rfl
      ·subst he
       have hin:=zw3 hent
       have hon:=z7p (⟨none,r,is,true,os,s.heap.length + 1,ns⟩:Eff) (⟨s.tmps,s.heap++some (.lp 0 key (ks.map s.get)) :: List.replicate res none⟩:St)
        (fun _ i hi=>zny (by rw [hob]; exact hin.1 i hi)) (fun kk hkk=>by
         have h2:kk < ns.length:=hkk
         have:=hin.2
         simp only [Qg,List.length_cons,List.length_replicate]
         omega)
       have h3o:=hon.1
       rw [hob] at h3o
       have hlp3:=hlp
       rw [h3o] at hlp3
       have hk:=hP.evo.kevo s.heap.length
       simp only [zao] at hk
       obtain ⟨_,hat⟩:=hk
       obtain ⟨r3,R3,m1,m2,m3,m4,m5,m6,m7,m8,m9⟩:=hP.heap.ob s.heap.length _ hlp3
       simp only [zap] at hat
       rw [hat] at m1
       have hst:r3.state ≠ .busy∧r3.pending=(match ex' with | .normal=>none | .ret=>some .ret | .exit i=>some (.exit i)):=by
        match j,hex,m2 with
        | 0,hex,m2=>simp only [z3b,Qa] at hex; subst hex; exact ⟨by rw [m2.1]; simp,m2.2⟩
        | 2,hex,m2=>simp only [z3b,Qa] at hex; subst hex; exact ⟨by rw [m2.1]; simp,m2.2⟩
        | j + 3,hex,m2=>simp only [z3b,Qa] at hex; subst hex; exact ⟨by rw [m2.1]; simp,m2.2⟩
       refine ⟨_,_,run_endLoop m1 hst.1, ?_⟩
       have hl3:l < w₃.heap.size:=(Array.getElem?_eq_some_iff.1 m1).1
       have hown:∀ o,zbf g3 (zc9 (zc9 (zby s.obj s.heap.length (some (.lp 0 key (ks.map s.get)))) is os) (List.range' (s.heap.length + 1) ns.length) ns) s.heap.length l o:=fun o=>by
        unfold zbf
        rw [show (zc9 (zc9 (zby s.obj s.heap.length (some (.lp 0 key (ks.map s.get)))) is os) (List.range' (s.heap.length + 1) ns.length) ns) s.heap.length=some (.lp j key' caps) from hlp3]
        simp only [hat]
       obtain ⟨z1,z2,z3⟩:=zgd (w':=w₃.putObj l (.loop { r3 with state:=.exhausted })) hP.heap s.heap.length (.lp 1 key' caps) ⟨l,0,0⟩ g3.im rfl rfl rfl (by simp [World.putObj])
        (fun b hb=>by
         by_cases e:b=l
         ·subst e
          exact .inr (.inr (.inr ⟨r3,.exhausted,r3.pending,m1,World.putObj_heap_same hl3,hown⟩))
         ·exact .inl (World.putObj_heap_other (by omega)))
        (fun _ _ h=>h) (fun _ _ h=>.inl h)
        (fun b o h=>by
         unfold zbf at h
         simp only [zao,zap] at h
         subst h
         exact ⟨.inl (hown o),fun hi=>hP.heap.imm _ _ _ (hown o) hi⟩)
        (fun b o h _ q=>by
         unfold zbf at h
         simp only [zao,zap] at h
         subst h
         unfold World.frozen?
         simp only [World.putObj_heap_same hl3])
        (fun i=>by
         by_cases e:i=s.heap.length
         ·subst e
          rw [show (zc9 (zc9 (zby s.obj s.heap.length (some (.lp 0 key (ks.map s.get)))) is os) (List.range' (s.heap.length + 1) ns.length) ns) s.heap.length=some (.lp j key' caps) from hlp3]
          exact ⟨⟨1,caps,zao ..⟩,by simp only [zap]; exact hat.symm⟩
         ·have:=zhy.refl g3 (zc9 (zc9 (zby s.obj s.heap.length (some (.lp 0 key (ks.map s.get)))) is os) (List.range' (s.heap.length + 1) ns.length) ns) i
          rw [zco _ _ e,show (⟨zdj g3.at_ s.heap.length ⟨l,0,0⟩,g3.im⟩:Gh).at_ i=g3.at_ i from zeq _ _ e]
          exact this)
        (fun hv=>⟨_,R3,World.putObj_heap_same hl3,trivial,m3,rfl,m5,m6,m7,m8,znb hv _ _ m9⟩)
       have hlen:s.heap.length < ((⟨none,r,is,true,os,s.heap.length + 1,ns⟩:Eff).on (⟨s.tmps,s.heap++some (.lp 0 key (ks.map s.get)) :: List.replicate res none⟩:St)).heap.length:=by
        rw [hon.2]; simp
       have hfin:∀ dfs,dfs=mark++a.defers→Q (Zej ex') { a with defers:=dfs } (w₃.putObj l (.loop { r3 with state:=.exhausted })):=fun dfs hd=>by
        refine hQ ⟨zdj g3.at_ s.heap.length ⟨l,0,0⟩,g3.im⟩ _ _ ⟨⟨⟨fun t=>?_,hR.go.rel.size, ?_⟩, ?_,rfl⟩,by rw [hd]; exact hmk.evo (hP.evo.trans z2)⟩
        ·rw [zfw hlen,h3o]
         exact z3 _ _ (hP.vals _ _ (hv1 _ _ (hR.go.rel.tmp t)))
        ·rw [zfw hlen,h3o]; exact z1
        ·rw [zfw hlen,h3o]
         exact hR.go.evo.trans (hE1.trans (hP.evo.trans z2))
       generalize w₃.putObj l (.loop { r3 with state:=.exhausted })=W at hfin ⊢
       rw [hst.2]
       cases ex' with
       | normal=>exact hfin _ rfl
       | ret=>exact wpIn_ret (hfin _ rfl)
       | exit i=>exact wpIn_exit (hfin _ rfl)
    ·cases hx
   ·cases hx
theorem znc {nt:Nat}{g0:Gh}{ob0:Nat→Option Obj}{w0:World}{a:Act}{w:World}:∀ (l:List (Nat × Nat)) {s:St} {g:Gh},Go1 tab nt g0 ob0 w0 ds g s.get s.obj a w→∃ g',Go1 tab nt g0 ob0 w0 ds g' (l.foldl zdn s).get (l.foldl zdn s).obj a w
 | [],s,g,h=>⟨g,h⟩
 | t :: l,s,g,h=>by
  obtain ⟨g1,h1⟩:=zsk h t
  exact znc l h1
theorem zkr {rd:Option Nat}{dp:Nat}(hB:zg1 P tab)(hCall:CallOk P tab call)(hm:P.follows .mixedOrders=true)(n:Nat){nt:Nat}{g0:Gh}{ob0:Nat→Option Obj}{w0:World}
  (hrd:∀ l0,rd=some l0→∃ id j k c,ob0 id=some (.lp j k c)∧(g0.at_ id).blk=l0) :
  ∀ (c:Code) (cc:CCode) (m m':Notes),comp P tab nt c m=some (cc,m')→(∀ o ∈ m'.outs,zna tab nt o)→∀ (s s':St) (ex:Ex),zbl call n cc s=some (ex,s')→∀ (g:Gh) (a:Act) (w:World),Go2 tab nt g0 ob0 w0 g s.get s.obj a w →
   ∀ (Q:Exit→Act→World→Prop),(∀ g' a' w',Go2 tab nt g0 ob0 w0 g' s'.get s'.obj a' w'→Q (Zej ex) a' w')→c.wpIn (fen rd) dp P Q a w:=by
 intro c
 induction c with
 | skip =>
  intro cc m m' hc hO s s' ex hx g a w hR Q hQ
  simp only [comp,Qa,Qj] at hc
  obtain ⟨rfl,rfl⟩:=hc
  simp only [zbl,Qa,Qj] at hx
  obtain ⟨rfl,rfl⟩:=hx
  exact wpIn_skip (hQ g a w hR)
 | label l =>
  intro cc m m' hc hO s s' ex hx g a w hR Q hQ
  simp only [comp,Qa,Qj] at hc
  obtain ⟨rfl,rfl⟩:=hc
  simp only [zbl,Qa,Qj] at hx
  obtain ⟨rfl,rfl⟩:=hx
  exact wpIn_label (hQ g a w hR)
 | exit id =>
  intro cc m m' hc hO s s' ex hx g a w hR Q hQ
  simp only [comp,Qa,Qj] at hc
  obtain ⟨rfl,rfl⟩:=hc
  simp only [zbl,Qa,Qj] at hx
  obtain ⟨rfl,rfl⟩:=hx
  exact wpIn_exit (hQ g a w hR)
 | ret =>
  intro cc m m' hc hO s s' ex hx g a w hR Q hQ
  simp only [comp,Qa,Qj] at hc
  obtain ⟨rfl,rfl⟩:=hc
  simp only [zbl,Qa,Qj] at hx
  obtain ⟨rfl,rfl⟩:=hx
  exact wpIn_ret (hQ g a w hR)
 | region id ops draw =>
  intro cc m m' hc hO s s' ex hx g a w hR Q hQ
  simp only [comp] at hc
  split at hc
  ·rename_i cs fz hcs
   split at hc
   ·rename_i hcond
    simp only [Qa,Qj] at hc
    obtain ⟨rfl,rfl⟩:=hc
    obtain ⟨k1,k2⟩:=zpu hcs
    simp only [zbl] at hx
    split at hx
    ·rename_i s2 hrun
     simp only [Qa,Qj] at hx
     obtain ⟨rfl,rfl⟩:=hx
     have hQ':∀ g' a' w',Go1 tab nt g s.obj w a.defers g' s2.get s2.obj a' w'→Q .normal a' w':=fun g' a' w' h=>hQ g' a' w' ⟨⟨h.rel,hR.go.evo.trans h.evo,rfl⟩,by rw [h.df]; exact hR.mks.evo h.evo⟩
     cases draw with
     | false=>exact zyl hB hCall k1 hrun hR.go.rel rfl hQ'
     | true =>
      simp only [Bool.not_true,Bool.false_or,Qi] at hcond
      refine zx4 hB hCall hm k1 (fun i c hic=>?_) hcond.1 hcond.2 hrun hR.go.rel rfl hQ'
      simpa using k2 rfl i c hic
    ·cases hx
   ·cases hc
  ·cases hc
 | seq x y ihx ihy =>
  intro cc m m' hc hO s s' ex hx g a w hR Q hQ
  simp only [comp] at hc
  split at hc
  ·rename_i x' m1 hx'
   split at hc
   ·rename_i y' m2 hy'
    simp only [Qa,Qj] at hc
    obtain ⟨rfl,rfl⟩:=hc
    simp only [zbl] at hx
    split at hx
    ·rename_i s1 h1
     exact wpIn_seq (ihx x' m m1 hx' (fun o ho=>hO o (zjz y hy' o ho)) s s1 .normal h1 g a w hR _ (fun g' a' w' h=>ihy y' m1 _ hy' hO s1 s' ex hx g' a' w' h Q hQ))
    ·rename_i hne
     refine wpIn_seq (ihx x' m m1 hx' (fun o ho=>hO o (zjz y hy' o ho)) s s' ex hx g a w hR _ (fun g' a' w' h=>?_))
     have:=hQ g' a' w' h
     cases ex with
     | normal=>exact absurd hx (hne s')
     | exit id=>exact this
     | ret=>exact this
   ·cases hc
  ·cases hc
 | cond c x y ihx ihy =>
  intro cc m m' hc hO s s' ex hx g a w hR Q hQ
  simp only [comp] at hc
  split at hc
  ·rename_i c' hc'
   split at hc
   ·rename_i x' m1 hx'
    split at hc
    ·rename_i y' m2 hy'
     simp only [Qa,Qj] at hc
     obtain ⟨rfl,rfl⟩:=hc
     have hv:=zaj (w:=w) hc' hR.go.rel.tmp
     simp only [zbl,z99] at hx
     split at hx
     ·rename_i e
      rw [e] at hv
      simp only [zag,za6] at hv
      exact wpIn_cond_true hv (ihx x' m m1 hx' (fun o ho=>hO o (zjz y hy' o ho)) s s' ex hx g a w hR Q hQ)
     ·rename_i e
      rw [e] at hv
      simp only [zag,za6] at hv
      exact wpIn_cond_false hv (ihy y' m1 _ hy' hO s s' ex hx g a w hR Q hQ)
     ·cases hx
    ·cases hc
   ·cases hc
  ·cases hc
 | block id c ih =>
  intro cc m m' hc hO s s' ex hx g a w hR Q hQ
  simp only [comp] at hc
  split at hc
  ·rename_i c' m1 hc'
   simp only [Qa,Qj] at hc
   obtain ⟨rfl,rfl⟩:=hc
   simp only [zbl] at hx
   split at hx
   ·rename_i id' s1 h1
    refine wpIn_block (ih c' m m1 hc' hO s s1 (.exit id') h1 g a w hR _ (fun g' a' w' h=>?_))
    split at hx
    ·rename_i e
     simp only [Qa,Qj] at hx
     obtain ⟨rfl,rfl⟩:=hx
     simp only [Zej,Exit.inBlock,e,if_true]
     exact hQ g' a' w' h
    ·rename_i e
     simp only [Qa,Qj] at hx
     obtain ⟨rfl,rfl⟩:=hx
     simp only [Zej,Exit.inBlock,e,if_false]
     exact hQ g' a' w' h
   ·rename_i hne
    refine wpIn_block (ih c' m m1 hc' hO s s' ex hx g a w hR _ (fun g' a' w' h=>?_))
    have:=hQ g' a' w' h
    cases ex with
    | normal=>exact this
    | exit id'=>exact absurd hx (hne id' s')
    | ret=>exact this
  ·cases hc
 | loop c ih =>
  intro cc m m' hc hO s s' ex hx g a w hR Q hQ
  simp only [comp] at hc
  split at hc
  ·rename_i ann as hann
   split at hc
   ·rename_i c' m1 hc'
    simp only [Qa,Qj] at hc
    obtain ⟨rfl,rfl⟩:=hc
    simp only [zbl] at hx
    obtain ⟨g1,hR1⟩:=z5t ann hR.go
    have hR1:Go2 tab nt g0 ob0 w0 g1 (enter ann s).get (enter ann s).obj a w:=⟨hR1,hR.mks⟩
    have hlow:∀ i,(ob0 i).isSome=true→i < (enter ann s).heap.length:=fun i hi=>zny (z1l hR1.go.evo.kevo hi)
    refine wpIn_loop_rounds n ?_
    have key:∀ (n':Nat) (s1:St) (g:Gh) (a:Act) (w:World),Go2 tab nt g0 ob0 w0 g s1.get s1.obj a w→zhc (zbl call n c') (zkt ann (enter ann s).heap.length) n' s1=some (ex,s')→Code.roundsIn (fen rd) dp P c Q n' a w:=by
     intro n'
     induction n' with
     | zero=>intro s1 g a w _ h; cases h
     | succ n' ihn =>
      intro s1 g a w hR h
      rw [roundsIn_succ]
      simp only [zhc] at h
      split at h
      ·rename_i s2 h2
       split at h
       ·rename_i s3 h3
        exact ih c' _ m1 hc' hO s1 s2 .normal h2 g a w hR _ (fun g' a' w' hR'=>ihn s3 g' a' w' ⟨z90 hR'.go hlow h3,hR'.mks⟩ h)
       ·cases h
      ·rename_i hne
       refine ih c' _ m1 hc' hO s1 s' ex h g a w hR _ (fun g' a' w' h'=>?_)
       have:=hQ g' a' w' h'
       cases ex with
       | normal=>exact absurd h (hne s')
       | exit id=>exact this
       | ret=>exact this
    exact key n _ g1 a w hR1 hx
   ·cases hc
  ·cases hc
 | scope c ih =>
  intro cc m m' hc hO s s' ex hx g a w hR Q hQ
  simp only [comp] at hc
  refine zit (ih cc m m' hc hO s s' ex hx g a w hR _ (fun g' a' w' h=>?_))
  have:=hQ g' a' w' h
  cases ex <;> exact this
 | rangeFunc f ps assign body =>
  intro cc m m' hc hO s s' ex hx g a w hR Q hQ
  simp only [comp] at hc
  split at hc
  ·rename_i key ks res own rest f' hrg hf
   simp only [Qa,Qj] at hc
   obtain ⟨rfl,rfl⟩:=hc
   obtain ⟨g1,hR1⟩:=znc own hR.go
   exact zuk hB hCall hrd hf (hO _ List.mem_cons_self) hx ⟨hR1,hR.mks⟩ hQ
  ·cases hc
 | _=>intro cc m m' hc; simp [comp] at hc
end
open Go
open Go.RowKit (Below)
section
variable {P:Program} {tab:Tab} {call:za0} {ds:List Deferred}
theorem z1n {at_:Nat→Place}{im:Nat→Nat→Prop}{w:World}(h:∀ b o,im b o→b < w.heap.size):HRel tab ⟨at_,im⟩ (fun _=>none) w where
 ob i o ho:=by cases ho
 imm i b o ho:=by exact ho.elim
 one i j b o ho:=by exact ho.elim
 old i b o ho:=by exact ho.elim
 frz i b o ho:=by exact ho.elim
 imOld:=h
theorem zwg:∀ (args:List V) (k t:Nat),za1 ((args.zipIdx k).map fun p=>(p.2,p.1)) t=if k ≤ t then args.getD (t - k) .bad else .bad
 | [],k,t=>by simp [za1]
 | x :: args,k,t=>by
  simp only [List.zipIdx_cons,Qb,zb0]
  rw [zwg args (k + 1) t]
  by_cases h:k=t
  ·subst h; simp
  ·rw [if_neg h]
   by_cases h2:k ≤ t
   ·rw [if_pos h2,if_pos (by omega)]
    obtain ⟨m,rfl⟩:∃ m,t=k + 1 + m:=⟨t - (k + 1),by omega⟩
    rw [show k + 1 + m - k=m + 1 by omega,show k + 1 + m - (k + 1)=m by omega]
    simp
   ·rw [if_neg h2,if_neg (by omega)]
theorem z5v {g:Gh}{w w':World}{g':Gh}{obj':Nat→Option Obj}(h:Evo g (fun _=>none) w g' obj' w'):Below w.heap.size w w':=by
 refine ⟨h.os,h.tape,h.output,h.size,fun b hb=>?_⟩
 have hno:∀ o,¬ zoh g (fun _=>none) b o:=fun o ⟨i,hi⟩=>hi
 rcases h.blk b hb with k | ⟨c,c',t,fr,k1,k2,k3,k4⟩ | ⟨es,cl,es',cl',k1,k2,k3⟩ | ⟨r,st,pe,k1,k2,k3⟩
 ·exact k
 ·rw [k1,k2]
  have:c'=c:=Array.ext_getElem? fun i=>k4 i (hno i)
  rw [this]
 ·exact absurd (k3 0) (hno 0)
 ·exact absurd (k3 0) (hno 0)
theorem z5w {nt:Nat}{g:Gh}{w:World}{args:List V}{hp:List (Option Obj)}{vs:List Value}(hH:HRel tab g (zaw hp) w)(h:zaf tab g (zaw hp) w args vs) :
  Go1 tab nt g (zaw hp) w [] g (zj7 args hp).get (zj7 args hp).obj { tmps:=vs.toArray++Array.replicate (nt - vs.toArray.size) undef,defers:=[] } w:=by
 have hob:(zj7 args hp).obj=zaw hp:=rfl
 rw [hob]
 refine ⟨⟨fun t=>?_,by simp; omega,hH⟩,.refl _ _ _,rfl⟩
 have hl:=h.length
 show zag tab _ _ w (za1 _ t) _
 simp only [zj7]
 rw [zwg args 0 t]
 simp only [Nat.zero_le,if_true,Nat.sub_zero]
 rcases Qn t args.length with ht | ht
 ·obtain ⟨u,k1,k2⟩:=h.get (i:=t) (x:=args[t]) (Qd ht)
  rw [show args.getD t .bad=args[t] by simp [ht]]
  have:(vs.toArray++Array.replicate (nt - vs.toArray.size) undef).getD t undef=u:=by
   rw [Array.getD_eq_getD_getElem?,Array.getElem?_append_left (by simp; omega)]
   simp [k1]
  simp only [this]
  exact k2
 ·rw [show args.getD t .bad = .bad by simp [List.getD,Qe ht]]
  simp only [zag]
def zj0 (tmps:Array Value):ResultVar→Sem Value
 | .tmp t=>pure (tmps.getD t undef)
 | .cell a t=>do loadVar t (← asAddr (tmps.getD a undef))
theorem zx7 (fn:Func)(tmps:Array Value):results fn tmps=(do
  let vs ← fn.results.mapM (zj0 tmps)
  pure (if h:vs.size=1 then vs[0] else .tuple vs)):=by
 unfold results
 have:(fun r=>match r with
  | .tmp t=>pure (tmps.getD t undef)
  | .cell a t=>do loadVar t (← asAddr (tmps.getD a undef)):ResultVar→Sem Value)=zj0 tmps:=by
  funext r; cases r <;> rfl
 rw [← this]
 rfl
theorem znd {raw:Bool}{nt:Nat}{g:Gh}{s:St}{a:Act}{w:World}(hR:Rel tab nt g s.get s.obj a w):∀ (rs:List ResultVar) (rets:List Ret) (vs:List V),ze0 P raw rs=some rets→zc8 s rets=some vs →
  ∃ us,(rs.mapM (zj0 a.tmps)).run P w = .ok us w∧zaf tab g s.obj w vs us
 | [],rets,vs,h1,h2=>by
  simp only [ze0,Qa] at h1
  subst h1
  simp only [zc8,Qa] at h2
  subst h2
  exact ⟨[],by simp,by simp only [zaf]⟩
 | .tmp t :: rs,rets,vs,h1,h2=>by
  simp only [ze0] at h1
  split at h1
  ·rename_i rets' h1'
   simp only [Qa] at h1
   subst h1
   simp only [zc8] at h2
   split at h2
   ·rename_i v vs' hv hvs
    simp only [Qa] at h2
    subst h2
    obtain ⟨us,k1,k2⟩:=znd hR rs rets' vs' h1' hvs
    refine ⟨a.tmps.getD t undef :: us,by simp [List.mapM_cons,zj0,k1], ?_⟩
    simp only [zaf]
    refine ⟨?_,k2⟩
    cases raw with
    | false=>exact zhq _ _ _ (by simpa [zyd] using hv) (hR.tmp t)
    | true =>
     have hv:(s.get t).rawH=some v:=by simpa [zyd] using hv
     have ht:=hR.tmp t
     generalize s.get t=x at hv ht
     cases x with
     | nil sz=>simp only [V.rawH,Qa] at hv; subst hv; exact ht
     | _=>exact zhq _ _ _ (by simpa only [V.rawH] using hv) ht
   ·cases h2
  ·cases h1
 | .cell c t :: rs,rets,vs,h1,h2=>by
  simp only [ze0] at h1
  split at h1
  ·rename_i rets' h1'
   split at h1
   ·rename_i hok
    simp only [Qa] at h1
    subst h1
    simp only [zc8] at h2
    split at h2
    ·rename_i v vs' hv hvs
     simp only [Qa] at h2
     subst h2
     obtain ⟨us,k1,k2⟩:=znd hR rs rets' vs' h1' hvs
     have hx:=hR.tmp c
     simp only [zyd] at hv
     split at hv
     ·rename_i id off hget
      rw [hget] at hx
      simp only [zag] at hx
      split at hv
      ·rename_i cs hcs
       split at hv
       ·rename_i cc hcc
        split at hv
        ·rename_i x hx2
         obtain ⟨m1,us0,m2,m3⟩:=hR.heap.ob id _ hcs
         obtain ⟨hle,rfl⟩:=zho hcc
         obtain ⟨n1,n2⟩:=zhe hx2 ((m2.drop off).take _)
         have hh:zbz w (g.at_ id).blk ((g.at_ id).lo + off) ((us0.drop off).take (P.cellsOf t)):=(zbz.drop m3 off).take _
         have hrun:=zno (P:=P) (w:=w) (zl9 hok) n1 hh
         refine ⟨zb6 (zas P t) ((us0.drop off).take (P.cellsOf t)) :: us, ?_, ?_⟩
         ·simp [List.mapM_cons,zj0,hx.2,asAddr,hrun,k1]
         ·simp only [zaf]
          exact ⟨zhq _ _ _ hv n2,k2⟩
        ·cases hv
       ·cases hv
      ·cases hv
     ·cases hv
    ·cases h2
   ·cases h1
  ·cases h1
def Zek:List Value→Value
 | [u]=>u
 | us=>.tuple us.toArray
theorem zx8 {g:Gh}{obj:Nat→Option Obj}{w:World}{vs:List V}{us:List Value}(h:zaf tab g obj w vs us):zag tab g obj w (zej vs) (Zek us):=by
 match vs,us,h with
 | [v],[u],h=>simp only [zaf] at h; exact h.1
 | [],[],h=>simp only [zej,zag]; exact ⟨[],rfl,by simp only [zaf]⟩
 | x :: y :: vs,u :: u2 :: us,h=>simp only [zej,zag]; exact ⟨_,rfl,h⟩
 | [],_ :: _,h=>simp only [zaf] at h
 | [_],[],h=>simp only [zaf] at h
 | [_],_ :: _ :: _,h=>simp only [zaf] at h; exact h.2.elim
 | _ :: _ :: _,[],h=>simp only [zaf] at h
 | _ :: _ :: _,[_],h=>simp only [zaf] at h; exact h.2.elim
theorem zsl {raw:Bool}{nt:Nat}{g0:Gh}{hp:List (Option Obj)}{w0:World}{g:Gh}{s:St}{a:Act}{w:World}(hG:Go1 tab nt g0 (zaw hp) w0 ds g s.get s.obj a w){fn:Func}{rets:List Ret}(h1:ze0 P raw fn.results.toList=some rets){r:V}{h':List (Option Obj)}(h2:zdo hp.length s rets=some (r,h')) :
  ∃ v g',(results fn a.tmps).run P w = .ok v w∧HRel tab g' (zaw h') w∧Evo g0 (zaw hp) w0 g' (zaw h') w∧zag tab g' (zaw h') w r v:=by
 unfold zdo at h2
 split at h2
 ·cases h2
 ·rename_i vs hvs
  obtain ⟨us,k1,k2⟩:=znd hG.rel fn.results.toList rets vs h1 hvs
  unfold zku at h2
  split at h2
  ·cases h2
  ·rename_i L hL
   split at h2
   ·cases h2
   ·rename_i h hren
    simp only [Qa,Qj] at h2
    obtain ⟨rfl,rfl⟩:=h2
    obtain ⟨m1,m2,m3,_⟩:=znw hG.rel.heap hG.evo hL hren
    have hval:zag tab ⟨fun i=>g.at_ (L.getD i 0),g.im⟩ (zaw h) w (V.ren (zau L) zbh (zej vs)) (Zek us):=by
     refine zag.ren (g:=g) (obj:=s.obj) (g2:=⟨fun i=>g.at_ (L.getD i 0),g.im⟩) rfl _ _ (fun i hi=>m3 i ?_) (zx8 k2)
     match vs,hi with
     | [v],hi=>simpa [V.refsAll,zej] using hi
     | [],hi=>simpa [V.refsAll,V.refs,zej] using hi
     | x :: y :: vs,hi=>simpa [V.refs,zej] using hi
    refine ⟨_,_, ?_,m1,m2,hval⟩
    rw [zx7]
    simp only [Array.mapM_eq_mapM_toList,Sem.run_bind,Sem.run_map,k1,Result.andThen_ok,Sem.run_pure]
    match us with
    | [u]=>simp [Zek]
    | []=>simp [Zek]
    | _ :: _ :: _=>simp [Zek]
theorem z1o {g:Gh}{obj:Nat→Option Obj}{w:World}(hH:HRel tab g obj w){D:Nat}{x:Option (List Deferred)}(hd:w.heap[D]?=some (.deferred x)):HRel tab g obj (w.putObj D (.deferred none)):=by
 have hlt:D < w.heap.size:=(Array.getElem?_eq_some_iff.1 hd).1
 have hs:(w.putObj D (.deferred none)).heap.size=w.heap.size:=by simp [World.putObj]
 have cell:∀ b o,(w.putObj D (.deferred none)).cell? (zad b o)=w.cell? (zad b o):=fun b o=>by
  unfold World.cell?
  by_cases e:b=D
  ·subst e; simp only [zad,World.putObj_heap_same hlt,hd]
  ·simp only [zad,World.putObj_heap_other e]
 have hv:∀ x v,zag tab g obj w x v→zag tab g obj (w.putObj D (.deferred none)) x v:=fun x v h=>zag.mono (.refl g obj) (fun _ _ h=>h) (fun b o _=>cell b o) x v h
 have cI:∀ b o,g.im b o→(w.putObj D (.deferred none)).cell? (zad b o)=w.cell? (zad b o):=fun b o _=>cell b o
 refine ⟨fun id o ho=>?_,hH.imm,hH.one,fun id b o h=>by rw [hs]; exact hH.old id b o h,fun id b o h hm q=>?_,fun b o h=>by rw [hs]; exact hH.imOld b o h⟩
 ·have h0:=hH.ob id o ho
  cases o with
  | box cs =>
   obtain ⟨h1,us,h2,h3⟩:=h0
   exact ⟨h1,us,zai.mono (.refl g obj) (fun _ _ h=>h) cI cs us h2,fun q u hq=>by rw [cell]; exact h3 q u hq⟩
  | cst ds=>exact zat.mono (fun _ _ h=>h) cI ds _ _ h0
  | tok v sz=>exact fun q hq=>by rw [cell]; exact h0 q hq
  | arr v sz xs =>
   obtain ⟨h1,h2,h4,h5⟩:=h0
   exact ⟨h1,h2,fun q hq=>by rw [cell]; exact h4 q hq,fun i r q x hi hq=>by
    obtain ⟨u,h6,h7,h8⟩:=h5 i r q x hi hq
    exact ⟨u,by rw [cell]; exact h6,hv x u h7,h8⟩⟩
  | map kvs =>
   obtain ⟨es,clock,h1,h2⟩:=h0
   have e:(g.at_ id).blk ≠ D:=fun e=>by rw [e,hd] at h1; cases h1
   exact ⟨es,clock,by rw [World.putObj_heap_other e]; exact h1,zwt.mono (.refl g obj) (fun _ _ h=>h) cI kvs es.toList _ h2⟩
  | lp j key caps =>
   obtain ⟨r,R,h1,h2,h3,h4,h5,h6,h7,h8,h9⟩:=h0
   have e:(g.at_ id).blk ≠ D:=fun e=>by rw [e,hd] at h1; cases h1
   exact ⟨r,R,by rw [World.putObj_heap_other e]; exact h1,h2,h3,h4,h5,h6,h7,h8,zaf.mono (.refl g obj) (fun _ _ h=>h) cI caps _ h9⟩
 ·have:=hH.frz id b o h hm q
  unfold World.frozen? at *
  by_cases e:b=D
  ·subst e; simp only [zad,World.putObj_heap_same hlt]
  ·simp only [zad,World.putObj_heap_other e] at *; exact this
theorem zsm {raw:Bool}{nt:Nat}{g0:Gh}{hp:List (Option Obj)}{w0:World}{g:Gh}{s:St}{a:Act}{fn:Func}{rets:List Ret}(h1:ze0 P raw fn.results.toList=some rets){r:V}{h':List (Option Obj)}(h2:zdo hp.length s rets=some (r,h')) :
  ∀ (ds:List Deferred) (w:World),Rel tab nt g s.get s.obj a w→Evo g0 (zaw hp) w0 g s.obj w→Marks w0.heap.size ds w →
   LeavesInM Fence.wide 0 P fn a.tmps (fun e w'=>∃ v g',e = .returned v∧HRel tab g' (zaw h') w'∧Evo g0 (zaw hp) w0 g' (zaw h') w'∧zag tab g' (zaw h') w' r v) ds .returning w
 | [],w,hR,hE,_=>by
  obtain ⟨v,g2,k1,k2,k3,k4⟩:=zsl (ds:=a.defers) ⟨hR,hE,rfl⟩ h1 h2
  exact ⟨v,k1,v,g2,rfl,k2,k3,k4⟩
 | d :: ds,w,hR,hE,hM=>by
  obtain ⟨D,e1,e2,e3⟩:=hM.all d List.mem_cons_self
  have hlt:D < w.heap.size:=(Array.getElem?_eq_some_iff.1 e3).1
  refine ⟨by simp,.inl ⟨D,_,by rw [e1],run_takeDeferred e3,zsm (nt:=nt) (g:=g) h1 h2 ds _ ?_ ?_ ⟨fun d' hd'=>?_,(List.pairwise_cons.1 hM.diff).2⟩⟩⟩
  ·have cell:∀ b o,(w.putObj D (.deferred none)).cell? (zad b o)=w.cell? (zad b o):=fun b o=>by
    unfold World.cell?
    by_cases e:b=D
    ·subst e; simp only [zad,World.putObj_heap_same hlt,e3]
    ·simp only [zad,World.putObj_heap_other e]
   exact ⟨fun t=>zag.mono (.refl g s.obj) (fun _ _ h=>h) (fun b o _=>cell b o) _ _ (hR.tmp t),hR.size,z1o hR.heap e3⟩
  ·refine ⟨hE.os,hE.tape,hE.output,by simp [World.putObj]; exact hE.size,fun b hb=>?_,hE.im,hE.imNew,hE.ownNew,hE.kevo⟩
   rw [World.putObj_heap_other (by omega)]
   exact hE.blk b hb
  ·obtain ⟨D',f1,f2,f3⟩:=hM.all d' (List.mem_cons_of_mem _ hd')
   refine ⟨D',f1,f2, ?_⟩
   have hne:=(List.pairwise_cons.1 hM.diff).1 d' hd'
   rw [World.putObj_heap_other (fun e=>hne (by rw [e1,f1,e]))]
   exact f3
theorem z5x (hB:zg1 P tab)(hCall:CallOk P tab call)(hm:P.follows .mixedOrders=true)(n key:Nat){fid:Nat}{fn:Func}(hf:P.funcs[fid]?=some fn){cf:CFn}{notes:Notes}{outs:List (Nat × Array Nat × Code × Code × List Nat)}(hc:zak P tab fn notes=some (cf,outs))
  (ho:∀ o ∈ outs,zna tab fn.ntmps o):z61 P tab fid (zhx call n key (.code cf)):=by
 intro ds hp r hp' h g w vs hH hds
 unfold zak at hc
 split at hc
 ·rename_i body hbody
  split at hc
  ·rename_i cc m' rets hcc hrets
   simp only [Qa,Qj] at hc
   obtain ⟨rfl,rfl⟩:=hc
   refine callsIn_wide.1 (callsIn_of_wp_marks (F:=Fence.wide) (n:=0) hf hbody trivial ?_)
   simp only [zhx] at h
   obtain ⟨ex,s,hex,hres,hne⟩:∃ ex s,zbl call n cc (zj7 ds hp)=some (ex,s)∧zdo hp.length s rets=some (r,hp')∧(ex = .normal ∨ ex = .ret):=by
    split at h
    ·rename_i s hs; exact ⟨_,s,hs,h,.inl rfl⟩
    ·rename_i s hs; exact ⟨_,s,hs,h,.inr rfl⟩
    ·cases h
   refine zkr (rd:=none) (dp:=0) hB hCall hm n (fun l0 e=>by cases e) body cc _ m' hcc ho (zj7 ds hp) s ex hex g _ w ⟨z5w hH hds,⟨fun d hd=>(by cases hd),List.Pairwise.nil⟩⟩ _ (fun g' a' w' hG=>?_)
   have hfin:=zsm hrets hres a'.defers w' hG.go.rel hG.go.evo hG.mks
   rcases hne with rfl | rfl
   ·exact hfin
   ·exact hfin
  ·cases hc
 ·cases hc
theorem zwh:∀ (x y:List (Nat × V)) (t:Nat),(∀ v,(t,v) ∉ x)→za1 (x++y) t=za1 y t
 | [],y,t,_=>rfl
 | (i,v) :: x,y,t,h=>by
  simp only [List.cons_append,zb0]
  rw [if_neg (fun e=>h v (by rw [e]; exact List.mem_cons_self))]
  exact zwh x y t (fun v' hv=>h v' (List.mem_cons_of_mem _ hv))
theorem zwi:∀ (ps:List Nat) (as:List V) (t:Nat) (v:V),(t,v) ∈ zpm ps as→t ∈ ps
 | [],_,t,v,h=>by simp [zpm] at h
 | p :: ps,[],t,v,h=>by simp [zpm] at h
 | p :: ps,a :: as,t,v,h=>by
  simp only [zpm,List.mem_cons,Qj] at h
  rcases h with ⟨h,_⟩ | h
  ·rw [h]; exact List.mem_cons_self
  ·exact List.mem_cons_of_mem _ (zwi ps as t v h)
theorem zwj {g:Gh}{obj:Nat→Option Obj}{w:World}:∀ (ps:List Nat) (as:List V) (xs:List Value) (T:Array Value) (rest:List (Nat × V)),ps.Nodup→(∀ p ∈ ps,p < T.size)→as.length=ps.length→zaf tab g obj w as xs →
  (∀ t,zag tab g obj w (za1 rest t) (T.getD t undef)) →
   (∀ t,zag tab g obj w (za1 (zpm ps as++rest) t) (((ps.zip xs).foldl (fun (T:Array Value) (p:Nat × Value)=>T.setIfInBounds p.1 p.2) T).getD t undef)) ∧
    ((ps.zip xs).foldl (fun (T:Array Value) (p:Nat × Value)=>T.setIfInBounds p.1 p.2) T).size=T.size
 | [],as,xs,T,rest,_,_,_,_,h=>by simp only [zpm,List.nil_append,List.zip_nil_left,List.foldl_nil]; exact ⟨h,trivial⟩
 | p :: ps,[],xs,T,rest,_,_,hl,_,h=>by simp at hl
 | p :: ps,a :: as,[],T,rest,_,_,_,hv,h=>by simp only [zaf] at hv
 | p :: ps,a :: as,u :: xs,T,rest,hn,hb,hl,hv,h=>by
  simp only [zaf] at hv
  obtain ⟨hn1,hn2⟩:=List.nodup_cons.1 hn
  have hp:p < T.size:=hb p List.mem_cons_self
  obtain ⟨k1,k2⟩:=zwj ps as xs (T.setIfInBounds p u) ((p,a) :: rest) hn2 (fun q hq=>by rw [Array.size_setIfInBounds]; exact hb q (List.mem_cons_of_mem _ hq)) (by simpa using hl) hv.2 (fun t=>by
   rw [zb0]
   by_cases e:p=t
   ·subst e
    rw [if_pos rfl,Array.getD_eq_getD_getElem?,Array.getElem?_setIfInBounds_self_of_lt hp]
    exact hv.1
   ·rw [if_neg e,Array.getD_eq_getD_getElem?,Array.getElem?_setIfInBounds_ne e,← Array.getD_eq_getD_getElem?]
    exact h t)
  simp only [List.zip_cons_cons,List.foldl_cons,zpm,List.cons_append]
  refine ⟨fun t=>?_,by rw [k2,Array.size_setIfInBounds]⟩
  have h1:=k1 t
  rw [zb0]
  by_cases e:p=t
  ·subst e
   rw [zwh _ _ _ (fun v hv=>hn1 (zwi _ _ _ _ hv)),zb0,if_pos rfl] at h1
   rw [if_pos rfl]; exact h1
  ·rw [if_neg e]
   have:∀ (x:List (Nat × V)),za1 (x++(p,a) :: rest) t=za1 (x++rest) t:=fun x=>by
    induction x with
    | nil=>simp only [List.nil_append,zb0,if_neg e]
    | cons y x ih=>obtain ⟨i,v⟩:=y; simp only [List.cons_append,zb0,ih]
   rw [this] at h1
   exact h1
theorem zwk {g:Gh}{obj:Nat→Option Obj}{w:World}(T:Array Value):∀ (ks:List Nat) (caps:List V),zaf tab g obj w caps (ks.map fun t=>T.getD t undef)→∀ t,zag tab g obj w (za1 (zpm ks caps) t) (T.getD t undef)
 | [],caps,h,t=>by simp only [zpm,za1,zag]
 | k :: ks,[],h,t=>by simp only [zpm,za1,zag]
 | k :: ks,c :: caps,h,t=>by
  simp only [Qb,zaf] at h
  simp only [zpm,zb0]
  by_cases e:k=t
  ·subst e; rw [if_pos rfl]; exact h.1
  ·rw [if_neg e]; exact zwk T ks caps h.2 t
theorem z5y (ps:List Nat)(xs:List Value)(T:Array Value):(ps.toArray.zip xs.toArray).foldl (fun tmps (t,a)=>tmps.setIfInBounds t a) T=(ps.zip xs).foldl (fun (T:Array Value) (p:Nat × Value)=>T.setIfInBounds p.1 p.2) T:=by
 rw [List.zip_toArray]
 simp
theorem z7k {g:Gh}{obj:Nat→Option Obj}{w:World}(hH:HRel tab g obj w){id j key:Nat}{caps:List V}(ho:obj id=some (.lp j key caps)){r:Loop}(hr:w.heap[(g.at_ id).blk]?=some (.loop r))(j':Nat)(st:LoopState)(pe:Option Code)
  (hs:zup j' { r with state:=st,pending:=pe }) :
  HRel tab g (zby obj id (some (.lp j' key caps))) (w.putObj (g.at_ id).blk (.loop { r with state:=st,pending:=pe })) ∧
   Evo g obj w g (zby obj id (some (.lp j' key caps))) (w.putObj (g.at_ id).blk (.loop { r with state:=st,pending:=pe })) ∧
   ∀ x v,zag tab g obj w x v→zag tab g (zby obj id (some (.lp j' key caps))) (w.putObj (g.at_ id).blk (.loop { r with state:=st,pending:=pe })) x v:=by
 have hlt:(g.at_ id).blk < w.heap.size:=(Array.getElem?_eq_some_iff.1 hr).1
 have hown:∀ o,zbf g obj id (g.at_ id).blk o:=fun o=>by unfold zbf; rw [ho]
 obtain ⟨r',R,m1,m2,m3,m4,m5,m6,m7,m8,m9⟩:=hH.ob id _ ho
 rw [hr] at m1
 simp only [Qa,Go.Obj.loop.injEq] at m1
 subst m1
 have hself:zdj g.at_ id (g.at_ id)=g.at_:=by
  funext i
  by_cases e:i=id
  ·subst e; rw [zap]
  ·rw [zeq _ _ e]
 have:=zgd (tab:=tab) (w':=w.putObj (g.at_ id).blk (.loop { r with state:=st,pending:=pe })) hH id (.lp j' key caps) (g.at_ id) g.im rfl rfl rfl (by simp [World.putObj])
  (fun b hb=>by
   by_cases e:b=(g.at_ id).blk
   ·subst e
    exact .inr (.inr (.inr ⟨r,st,pe,hr,World.putObj_heap_same hlt,hown⟩))
   ·exact .inl (World.putObj_heap_other (by omega)))
  (fun _ _ h=>h) (fun _ _ h=>.inl h)
  (fun b o h=>by
   unfold zbf at h
   simp only [zao,zap] at h
   subst h
   exact ⟨.inl (hown o),fun hi=>hH.imm _ _ _ (hown o) hi⟩)
  (fun b o h _ q=>by
   unfold zbf at h
   simp only [zao,zap] at h
   subst h
   unfold World.frozen?
   simp only [zad,World.putObj_heap_same hlt])
  (fun i=>by
   by_cases e:i=id
   ·subst e
    rw [ho]
    exact ⟨⟨j',caps,zao ..⟩,by simp only [zap]⟩
   ·have:=zhy.refl g obj i
    rw [zco _ _ e,show (⟨zdj g.at_ id (g.at_ id),g.im⟩:Gh).at_ i=g.at_ i from zeq _ _ e]
    exact this)
  (fun hv=>⟨_,R,World.putObj_heap_same hlt,hs,m3,rfl,m5,m6,m7,m8,znb hv _ _ m9⟩)
 rw [hself] at this
 exact this
theorem z1p (hB:zg1 P tab)(hCall:CallOk P tab call)(hm:P.follows .mixedOrders=true)(n:Nat){key:Nat}{R:Round}(hk:zsy tab key=some R){ps:List Nat}{a c:CCode}{notes:Notes}{outs:List (Nat × Array Nat × Code × Code × List Nat)}
  (hps:R.ps=ps.toArray) (hnd:ps.Nodup) (hlt:∀ p ∈ ps,p < R.nt) (hc:znm P tab R notes=some (a,c,outs)) (ho:∀ o ∈ outs,zna tab R.nt o):FnC tab (z8p P) (zhx call n key (.round ps R.ks a c)):=by
 intro args hp r hp' hx g w vs hH hds
 simp only [zhx] at hx
 unfold zqt at hx
 split at hx
 case h_2=>cases hx
 rename_i fk id as
 split at hx
 case h_2=>cases hx
 rename_i key' caps hob
 split at hx
 case isFalse=>cases hx
 rename_i hcond
 obtain ⟨rfl,has,hcaps⟩:=hcond
 split at hx
 case h_2=>cases hx
 rename_i s1 hx1
 split at hx
 case h_2=>cases hx
 rename_i k1 c1 hob1
 split at hx
 case h_2=>cases hx
 rename_i ex s2 hx2
 split at hx
 case h_2=>cases hx
 rename_i k2 c2 hob2
 have hobj0:zaw hp id=some (.lp 0 key' caps):=hob
 match vs,hds with
 | [],hds=>simp only [zaf] at hds
 | v :: xs,hds =>
 simp only [zaf] at hds
 obtain ⟨hv,hxs⟩:=hds
 have hv':v = .func (.yield (g.at_ id).blk) #[] #[]:=by
  unfold zag at hv
  rcases hv with ⟨_,_,_,_,_,_,_,hne⟩ | ⟨id',e,_,hv,_⟩
  ·exact absurd rfl (hne id)
  ·simp only [List.cons.injEq,V.map.injEq,and_true] at e
   rw [e]; exact hv
 subst hv'
 obtain ⟨rec,R',m1,m2,m3,_,m5,m6,m7,m8,m9⟩:=hH.ob id _ hobj0
 rw [hk] at m3
 simp only [Qa] at m3
 subst m3
 have hxl:=hxs.length
 refine ⟨_,xs,rec,rfl,m1, ?_,fun rd m=>?_⟩
 ·rw [m5,hps]; simp; omega
 unfold znm at hc
 split at hc
 case h_2=>cases hc
 rename_i a' n1 hca
 split at hc
 case h_2=>cases hc
 rename_i c' n2 hcc
 simp only [Qa,Qj] at hc
 obtain ⟨rfl,rfl,rfl⟩:=hc
 rw [m5,hps,z5y,m6,m7]
 obtain ⟨t1,t2⟩:=zwj ps as xs rec.tmps (zpm R.ks caps) hnd (fun p hp=>Nat.lt_of_lt_of_le (hlt p hp) m8) has hxs (zwk rec.tmps R.ks caps m9)
 generalize (ps.zip xs).foldl (fun (T:Array Value) (p:Nat × Value)=>T.setIfInBounds p.1 p.2) rec.tmps=T at t1 t2 ⊢
 have hrd:∀ l0,some (g.at_ id).blk=some l0→∃ i j k c,zaw hp i=some (.lp j k c)∧(g.at_ i).blk=l0:=fun l0 e=>by
  simp only [Qa] at e
  exact ⟨id,0,key',caps,hobj0,e⟩
 refine roundIn_of_wpIn (F:=fen rd) trivial ?_
 have hfen:(fen rd).inRound (g.at_ id).blk=fen (some (g.at_ id).blk):=rfl
 rw [hfen]
 refine zkr (rd:=some (g.at_ id).blk) (dp:=m) (nt:=R.nt) (g0:=g) (ob0:=zaw hp) (w0:=w) hB hCall hm n hrd R.assign a' _ n1 hca (fun o h=>ho o (zjz R.body hcc o h)) _ s1 .normal hx1 g { tmps:=T,defers:=[] } w
  ⟨⟨⟨t1,by rw [t2]; exact m8,hH⟩,.refl _ _ _,rfl⟩,⟨fun d hd=>(by cases hd),List.Pairwise.nil⟩⟩ _ (fun g1 a1 w1 hG1=>?_)
 have place:∀ (g':Gh) (ob':Nat→Option Obj) (w':World),Evo g (zaw hp) w g' ob' w'→(g'.at_ id)=g.at_ id:=fun g' ob' w' hE=>by
  have:=hE.kevo id
  rw [hobj0] at this
  exact this.2
 have e1:=place _ _ _ hG1.go.evo
 obtain ⟨r1,R1,p1,p2,_⟩:=hG1.go.rel.heap.ob id _ hob1
 obtain ⟨q1,q2,q3⟩:=z7k hG1.go.rel.heap hob1 p1 1 .busy r1.pending trivial
 rw [e1] at p1 q1 q2 q3
 refine ⟨_,run_beginRound p1 p2.1, ?_⟩
 have hlen1:id < s1.heap.length:=zny (by rw [hob1]; rfl)
 refine zkr (rd:=some (g.at_ id).blk) (dp:=m) (nt:=R.nt) (g0:=g) (ob0:=zaw hp) (w0:=w) hB hCall hm n hrd R.body c' _ n2 hcc ho _ s2 ex hx2 g1 _ _
  ⟨⟨⟨fun t=>?_,hG1.go.rel.size, ?_⟩, ?_,rfl⟩,hG1.mks.evo q2⟩ _ (fun g2 a2 w2 hG2=>?_)
 ·rw [zfw hlen1]; exact q3 _ _ (hG1.go.rel.tmp t)
 ·rw [zfw hlen1]; exact q1
 ·rw [zfw hlen1]; exact hG1.go.evo.trans q2
 ·have e2:=place _ _ _ hG2.go.evo
  obtain ⟨r2,R2,z1,z2,_⟩:=hG2.go.rel.heap.ob id _ hob2
  have hlen2:id < s2.heap.length:=zny (by rw [hob2]; rfl)
  have fin:∀ (jump:Option Code),zup (z55 ex) { r2 with state:=if jump.isNone then .ready else .done,pending:=jump }→decide (ex = .normal)=jump.isNone →
    ∃ v w',(Instr.endRound (g.at_ id).blk jump).run P w2 = .ok v w'∧∃ v' g',Ending.returned v = .returned v'∧HRel tab g' (zaw hp') w'∧Evo g (zaw hp) w g' (zaw hp') w'∧zag tab g' (zaw hp') w' r v':=fun jump hj hd=>by
   obtain ⟨y1,y2,y3⟩:=z7k hG2.go.rel.heap hob2 z1 (z55 ex) (if jump.isNone then .ready else .done) jump hj
   rw [e2] at z1 y1 y2 y3
   refine ⟨_,_,run_endRound jump z1, ?_⟩
   unfold zku at hx
   split at hx
   case h_1=>cases hx
   rename_i L hL
   split at hx
   case h_1=>cases hx
   rename_i h hren
   simp only [Qa,Qj] at hx
   obtain ⟨rfl,rfl⟩:=hx
   rw [zfw hlen2] at hL hren
   obtain ⟨n1,n2,n3,_⟩:=znw y1 (hG2.go.evo.trans y2) hL hren
   refine ⟨_,_,rfl,n1,n2, ?_⟩
   simp only [zej,V.ren,zag,za6,hd]
  cases ex with
  | normal=>exact fin none ⟨rfl,rfl⟩ rfl
  | ret=>exact fin (some .ret) ⟨rfl,rfl⟩ rfl
  | exit i=>exact fin (some (.exit i)) ⟨rfl,rfl⟩ rfl
structure TabOk (P:Program)(tab:Tab)(E:Nat→Option Fn):Prop where
 body:zg1 P tab
 mixed:P.follows .mixedOrders=true
 code:∀ fid key cf,zfh tab fid=some key→E key=some (.code cf)→∃ fn notes outs,P.funcs[fid]?=some fn∧zak P tab fn notes=some (cf,outs)∧∀ o ∈ outs,zna tab fn.ntmps o
 noRnd:∀ fid key ps ks a c,zfh tab fid=some key→E key ≠ some (.round ps ks a c)
 prim:∀ fid key f,zfh tab fid=some key→E key=some (.prim f)→z61 P tab fid f
 rnd:∀ key R f,zsy tab key=some R→E key=some f→∃ ps a c notes outs,f = .round ps R.ks a c∧R.ps=ps.toArray∧ps.Nodup∧(∀ p ∈ ps,p < R.nt)∧znm P tab R notes=some (a,c,outs)∧∀ o ∈ outs,zna tab R.nt o
theorem zl5 {E:Nat→Option Fn}(hT:TabOk P tab E):∀ (k:Nat),CallOk P tab (zc2 E k)
 | 0=>⟨fun fid key hk ds hp r hp' h=>(by cases h),fun key R hk ds hp r hp' h=>(by cases h)⟩
 | k + 1=>by
  refine ⟨fun fid key hk ds hp r hp' h=>?_,fun key R hk ds hp r hp' h=>?_⟩
  ·simp only [zc2] at h
   split at h
   ·rename_i f hf
    cases f with
    | code cf =>
     obtain ⟨fn,notes,outs,h1,h2,h3⟩:=hT.code fid key cf hk hf
     exact z5x hT.body (zl5 hT k) hT.mixed k key h1 h2 h3 ds hp r hp' h
    | round ps ks a c=>exact absurd hf (hT.noRnd fid key ps ks a c hk)
    | prim f=>exact hT.prim fid key f hk hf ds hp r hp' h
   ·cases h
  ·simp only [zc2] at h
   split at h
   ·rename_i f hf
    obtain ⟨ps,a,c,notes,outs,rfl,h1,h2,h3,h4,h5⟩:=hT.rnd key R f hk hf
    exact z1p hT.body (zl5 hT k) hT.mixed k hk h1 h2 h3 h4 h5 ds hp r hp' h
   ·cases h
end
open Go
def Le (C C':za0):Prop:=∀ key a h r,C key a h=some r→C' key a h=some r
theorem Le.refl (C:za0):Le C C:=fun _ _ _ _ h=>h
theorem Le.trans {A B C:za0}(h:Le A B)(k:Le B C):Le A C:=fun _ _ _ _ x=>k _ _ _ _ (h _ _ _ _ x)
section
variable {C C':za0}
theorem zwl (h:Le C C'){md:Md}{obj:Nat→Option Obj}{key res fresh:Nat}{vs:List V}{r:V × List Nat × List (Option Obj) × List (Option Obj)}(he:zba C md obj key vs res fresh=some r):zba C' md obj key vs res fresh=some r:=by
 unfold zba at he ⊢
 split at he
 ·cases he
 ·rename_i hs hhs
  split at he
  ·cases he
  ·rename_i L hL
   split at he
   ·cases he
   ·rename_i hp hh
    split at he
    ·cases he
    ·rename_i r' h' hcall
     simp only [h _ _ _ _ hcall]
     exact he
theorem zx9 (h:Le C C')(fz:Md):Le (za9 fz C) (za9 fz C'):=by
 intro key a hp r hr
 cases fz with
 | keep=>exact h key a hp r hr
 | raw=>exact h key a hp r hr
 | frz =>
  simp only [za9] at hr ⊢
  split at hr
  ·rename_i r1 h1 hc
   rw [h _ _ _ _ hc]
   exact hr
  ·cases hr
 | lend =>
  simp only [za9] at hr ⊢
  split at hr
  ·cases hr
  ·rename_i ds hds
   split at hr
   ·rename_i r1 hc
    rw [h _ _ _ _ hc]
    exact hr
   ·cases hr
theorem zwm (h:Le C C'){s:St}{o:CO}{f:Nat}{e:Eff}(he:zck C s o f=some e):zck C' s o f=some e:=by
 unfold zck at he ⊢
 split at he
 ·cases he
 ·rename_i hw; exact he
 ·rename_i hw
  split at he
  ·rename_i hcall
   rw [if_pos hcall]
   split at he
   ·cases he
   ·split at he
    ·cases he
    ·rename_i hent
     simp only [zwl (zx9 h _) hent]
     exact he
  ·rename_i hcall
   rw [if_neg hcall]
   exact he
theorem zne (h:Le C C'){base:Nat}:∀ {ops:List CO} {j:Nat} {s:St} {r:St × List Eff},zcd C base ops j s=some r→zcd C' base ops j s=some r
 | [],j,s,r,hr=>hr
 | o :: ops,j,s,r,hr=>by
  simp only [zcd] at hr ⊢
  split at hr
  ·cases hr
  ·rename_i e he
   simp only [zwm h he]
   split at hr
   ·rename_i s' es hes
    simp only [zne h hes]
    exact hr
   ·cases hr
theorem zli (h:Le C C'){d:Bool}{ops:List CO}{s s':St}(hr:zbb C d ops s=some s'):zbb C' d ops s=some s':=by
 unfold zbb at hr ⊢
 simp only at hr ⊢
 split at hr
 ·rename_i s2 es hes
  simp only [zne h hes]
  exact hr
 ·cases hr
theorem zj1 {f f':St→Option (Ex × St)}{bk:St→Option St}(h:∀ s r,f s=some r→f' s=some r):∀ {n n':Nat},n ≤ n'→∀ {s:St} {r:Ex × St},zhc f bk n s=some r→zhc f' bk n' s=some r
 | 0,n',_,s,r,hr=>by cases hr
 | n + 1,0,hn,s,r,hr=>by omega
 | n + 1,n' + 1,hn,s,r,hr=>by
  simp only [zhc] at hr ⊢
  split at hr
  ·rename_i s' hs
   simp only [h _ _ hs]
   split at hr
   ·rename_i s'' hb
    exact zj1 h (by omega) hr
   ·cases hr
  ·rename_i hne
   have:=h _ _ hr
   rw [this]
   split
   ·rename_i s' e; rw [e] at this; cases e; exact absurd hr (hne s')
   ·rfl
theorem zsn (h:Le C C'){f:A}{key res:Nat}{ks:List Nat}{s:St}{r:Ex × St}(hr:ze8 C f key ks res s=some r):ze8 C' f key ks res s=some r:=by
 unfold ze8 at hr ⊢
 simp only at hr ⊢
 split at hr
 ·cases hr
 ·rename_i k vs hargs
  split at hr
  ·cases hr
  ·rename_i r0 is os ns hent
   simp only [zwl h hent]
   exact hr
theorem zb9 (h:Le C C'):∀ (c:CCode) {n n':Nat},n ≤ n'→∀ {s:St} {r:Ex × St},zbl C n c s=some r→zbl C' n' c s=some r:=by
 intro c
 induction c with
 | skip=>intro n n' hn s r hr; exact hr
 | exit id=>intro n n' hn s r hr; exact hr
 | ret=>intro n n' hn s r hr; exact hr
 | region d ops =>
  intro n n' hn s r hr
  simp only [zbl] at hr ⊢
  split at hr
  ·rename_i s' hs
   simp only [zli h hs]
   exact hr
  ·cases hr
 | seq a b iha ihb =>
  intro n n' hn s r hr
  simp only [zbl] at hr ⊢
  split at hr
  ·rename_i s' hs
   simp only [iha hn hs]
   exact ihb hn hr
  ·rename_i hne
   have:=iha hn hr
   rw [this]
   split
   ·rename_i s' e; cases e; exact absurd hr (hne s')
   ·rfl
 | cond c a b iha ihb =>
  intro n n' hn s r hr
  simp only [zbl] at hr ⊢
  split at hr
  ·exact iha hn hr
  ·exact ihb hn hr
  ·cases hr
 | block id c ih =>
  intro n n' hn s r hr
  simp only [zbl] at hr ⊢
  split at hr
  ·rename_i id' s' hs
   simp only [ih hn hs]
   exact hr
  ·rename_i hne
   have:=ih hn hr
   rw [this]
   split
   ·rename_i id' s' e; cases e; exact absurd hr (hne id' s')
   ·rfl
 | loop ann c ih =>
  intro n n' hn s r hr
  simp only [zbl] at hr ⊢
  exact zj1 (fun s r hs=>ih hn hs) hn hr
 | range own f key ks res=>intro n n' hn s r hr; exact zsn h hr
def zg7 (xa xc:St→Option (Ex × St))(key:Nat)(ps ks:List Nat)(args:List V)(h:List (Option Obj)):Option (V × List (Option Obj)) :=
 match args with
 | .fn _ [.map id] [] :: as=>match (h[id]?).join with
  | some (.lp 0 key' caps)=>if key'=key∧as.length=ps.length∧caps.length=ks.length then match xa ⟨zpm ps as++zpm ks caps,h⟩ with
    | some (.normal,s)=>match s.obj id with
     | some (.lp 0 k1 c1)=>match xc { s with heap:=s.heap.set id (some (.lp 1 k1 c1)) } with
      | some (ex,s)=>match s.obj id with
       | some (.lp 1 k2 c2)=>zku h.length { s with heap:=s.heap.set id (some (.lp (z55 ex) k2 c2)) } [.d (.b (decide (ex = .normal)))]
       | _=>none
      | none=>none
     | _=>none
    | _=>none
   else none
  | _=>none
 | _=>none
theorem ziu (call:za0)(n key:Nat)(ps ks:List Nat)(a c:CCode)(args:List V)(h:List (Option Obj)):zqt call n key ps ks a c args h=zg7 (zbl call n a) (zbl call n c) key ps ks args h:=rfl
theorem znf {xa xc xa' xc':St→Option (Ex × St)}{key:Nat}{ps ks:List Nat}{args:List V}{h:List (Option Obj)}{r:V × List (Option Obj)}(ha:∀ s r,xa s=some r→xa' s=some r)(hc:∀ s r,xc s=some r→xc' s=some r)
  (hr:zg7 xa xc key ps ks args h=some r):zg7 xa' xc' key ps ks args h=some r:=by
 unfold zg7 at hr
 split at hr
 case h_2=>cases hr
 rename_i fk id as
 split at hr
 case h_2=>cases hr
 rename_i key' caps hob
 split at hr
 case isFalse=>cases hr
 rename_i hcond
 split at hr
 case h_2=>cases hr
 rename_i s1 hx1
 split at hr
 case h_2=>cases hr
 rename_i k1 c1 hob1
 split at hr
 case h_2=>cases hr
 rename_i ex s2 hx2
 unfold zg7
 simp only [hob]
 rw [if_pos hcond]
 simp only [ha _ _ hx1,hob1,hc _ _ hx2]
 exact hr
theorem zya {xa xc:Nat→St→Option (Ex × St)}(ma:∀ k k' s r,k ≤ k'→xa k s=some r→xa k' s=some r)(mc:∀ k k' s r,k ≤ k'→xc k s=some r→xc k' s=some r){key:Nat}{ps ks:List Nat}{args:List V}{h:List (Option Obj)}{r:V × List (Option Obj)}
  {xa' xc':St→Option (Ex × St)} (ha:∀ s r,xa' s=some r→∃ k,xa k s=some r) (hc:∀ s r,xc' s=some r→∃ k,xc k s=some r)
  (hr:zg7 xa' xc' key ps ks args h=some r):∃ k,zg7 (xa k) (xc k) key ps ks args h=some r:=by
 unfold zg7 at hr
 split at hr
 case h_2=>cases hr
 rename_i fk id as
 split at hr
 case h_2=>cases hr
 rename_i key' caps hob
 split at hr
 case isFalse=>cases hr
 rename_i hcond
 split at hr
 case h_2=>cases hr
 rename_i s1 hx1
 split at hr
 case h_2=>cases hr
 rename_i k1 c1 hob1
 split at hr
 case h_2=>cases hr
 rename_i ex s2 hx2
 obtain ⟨n1,h1⟩:=ha _ _ hx1
 obtain ⟨n2,h2⟩:=hc _ _ hx2
 refine ⟨max n1 n2, ?_⟩
 unfold zg7
 simp only [hob]
 rw [if_pos hcond]
 simp only [ma _ _ _ _ (Nat.le_max_left n1 n2) h1,hob1,mc _ _ _ _ (Nat.le_max_right n1 n2) h2]
 exact hr
theorem z5z (h:Le C C'){n n':Nat}(hn:n ≤ n'){key:Nat}{fn:Fn}{args:List V}{hp:List (Option Obj)}{r:V × List (Option Obj)}(hr:zhx C n key fn args hp=some r):zhx C' n' key fn args hp=some r:=by
 cases fn with
 | prim f=>exact hr
 | round ps ks a c =>
  simp only [zhx,ziu] at hr ⊢
  exact znf (fun s r hs=>zb9 h a hn hs) (fun s r hs=>zb9 h c hn hs) hr
 | code f =>
  simp only [zhx] at hr ⊢
  split at hr
  ·rename_i s hs; simp only [zb9 h _ hn hs]; exact hr
  ·rename_i s hs; simp only [zb9 h _ hn hs]; exact hr
  ·cases hr
end
section
variable {E:Nat→Option Fn}
theorem zpi:∀ (k:Nat),Le (zc2 E k) (zc2 E (k + 1))
 | 0=>fun _ _ _ _ h=>by cases h
 | k + 1=>fun key a hp r h=>by
  simp only [zc2] at h ⊢
  split at h
  ·rename_i fn hfn
   have:=z5z (zpi k) (Nat.le_succ k) h
   simpa only [zc2] using this
  ·cases h
theorem zdg {k k':Nat}(h:k ≤ k'):Le (zc2 E k) (zc2 E k'):=by
 induction h with
 | refl=>exact .refl _
 | step h ih=>exact ih.trans (zpi _)
noncomputable def lim {α:Type} (f:Nat→Option α):Option α:=open Classical in if h:∃ r k,f k=some r then some h.choose else none
theorem zqn {α:Type}{f:Nat→Option α}(hm:∀ k k' r,k ≤ k'→f k=some r→f k'=some r){r:α}:lim f=some r ↔ ∃ k,f k=some r:=by
 unfold lim
 constructor
 ·intro h
  split at h
  ·rename_i hx
   simp only [Qa] at h
   subst h
   exact hx.choose_spec
  ·cases h
 ·rintro ⟨k,hk⟩
  have hx:∃ r k,f k=some r:=⟨r,k,hk⟩
  rw [dif_pos hx]
  congr 1
  obtain ⟨k',hk'⟩:=hx.choose_spec
  have h1:=hm k (max k k') r (by omega) hk
  have h2:=hm k' (max k k') _ (by omega) hk'
  rw [h1] at h2
  exact (Option.some.inj h2).symm
theorem zef {α:Type}{x y:Option α}(h:∀ r,x=some r ↔ y=some r):x=y:=by
 cases x with
 | none=>cases y with | none=>rfl | some r=>exact absurd ((h r).2 rfl) (by simp)
 | some r=>exact ((h r).1 rfl).symm
variable (E)
noncomputable def lcall (key:Nat) (args:List V) (h:List (Option Obj)):Option (V × List (Option Obj)):=lim fun k=>zc2 E k key args h
noncomputable def lx (c:CCode) (s:St):Option (Ex × St):=lim fun k=>zbl (zc2 E k) k c s
noncomputable def lloop (c:CCode) (ann:Ann) (n:Nat) (s:St):Option (Ex × St):=lim fun k=>zhc (zbl (zc2 E k) k c) (zkt ann n) k s
variable {E}
theorem zc0 {key:Nat}{args:List V}{hp:List (Option Obj)}{r:V × List (Option Obj)}:lcall E key args hp=some r ↔ ∃ k,zc2 E k key args hp=some r :=
 zqn fun k k' r h hr=>zdg h _ _ _ _ hr
theorem zbx {c:CCode}{s:St}{r:Ex × St}:lx E c s=some r ↔ ∃ k,zbl (zc2 E k) k c s=some r :=
 zqn fun k k' r h hr=>zb9 (zdg h) c h hr
theorem zj2 {c:CCode}{ann:Ann}{n:Nat}{s:St}{r:Ex × St}:lloop E c ann n s=some r ↔ ∃ k,zhc (zbl (zc2 E k) k c) (zkt ann n) k s=some r :=
 zqn (f:=fun k=>zhc (zbl (zc2 E k) k c) (zkt ann n) k s) fun k k' r h hr=>zj1 (f:=zbl (zc2 E k) k c) (f':=zbl (zc2 E k') k' c) (fun s r hs=>zb9 (zdg h) c h hs) h hr
theorem Le.lcall (k:Nat):Le (zc2 E k) (lcall E):=fun key a hp r h=>zc0.2 ⟨k,h⟩
theorem z1q {s:St}{o:CO}{f:Nat}{e:Eff}(h:zck (lcall E) s o f=some e):∃ k,zck (zc2 E k) s o f=some e:=by
 unfold zck at h ⊢
 split at h
 ·cases h
 ·exact ⟨0,h⟩
 ·split at h
  ·rename_i hcall
   simp only [hcall,if_true]
   split at h
   ·cases h
   ·split at h
    ·cases h
    ·rename_i hent
     have lim1:∀ (fz:Md) key a hp r,za9 fz (lcall E) key a hp=some r→∃ k,za9 fz (zc2 E k) key a hp=some r:=by
      intro fz key a hp r hr
      cases fz with
      | keep=>exact zc0.1 hr
      | raw=>exact zc0.1 hr
      | frz =>
       simp only [za9] at hr ⊢
       split at hr
       ·rename_i r1 h1 hc
        obtain ⟨k,hk⟩:=zc0.1 hc
        exact ⟨k,by rw [hk]; exact hr⟩
       ·cases hr
      | lend =>
       simp only [za9] at hr ⊢
       split at hr
       ·cases hr
       ·rename_i ds hds
        split at hr
        ·rename_i r1 hc
         obtain ⟨k,hk⟩:=zc0.1 hc
         exact ⟨k,by rw [hk]; exact hr⟩
        ·cases hr
     unfold zba at hent
     split at hent
     ·cases hent
     ·rename_i hs hhs
      split at hent
      ·cases hent
      ·rename_i L hL
       split at hent
       ·cases hent
       ·rename_i hp hh
        split at hent
        ·cases hent
        ·rename_i r' h' hc
         obtain ⟨k,hk⟩:=lim1 _ _ _ _ _ hc
         refine ⟨k, ?_⟩
         unfold zba
         simp only [hhs,hL,hh,hk,hent]
         exact h
  ·rename_i hcall
   exact ⟨0,by rw [if_neg hcall]; exact h⟩
theorem zpj {base:Nat}:∀ {ops:List CO} {j:Nat} {s:St} {r:St × List Eff},zcd (lcall E) base ops j s=some r→∃ k,zcd (zc2 E k) base ops j s=some r
 | [],j,s,r,h=>⟨0,h⟩
 | o :: ops,j,s,r,h=>by
  simp only [zcd] at h ⊢
  split at h
  ·cases h
  ·rename_i e he
   split at h
   ·rename_i s' es hes
    obtain ⟨k1,h1⟩:=z1q he
    obtain ⟨k2,h2⟩:=zpj hes
    refine ⟨max k1 k2, ?_⟩
    simp only [zwm (zdg (Nat.le_max_left k1 k2)) h1,zne (zdg (Nat.le_max_right k1 k2)) h2]
    exact h
   ·cases h
theorem zqo {d:Bool}{ops:List CO}{s s':St}(h:zbb (lcall E) d ops s=some s'):∃ k,zbb (zc2 E k) d ops s=some s':=by
 unfold zbb at h ⊢
 simp only at h ⊢
 split at h
 ·rename_i s2 es hes
  obtain ⟨k,hk⟩:=zpj hes
  exact ⟨k,by simp only [hk]; exact h⟩
 ·cases h
theorem zyb {f:A}{key res:Nat}{ks:List Nat}{s:St}{r:Ex × St}(hr:ze8 (lcall E) f key ks res s=some r):∃ k,ze8 (zc2 E k) f key ks res s=some r:=by
 unfold ze8 at hr
 simp only at hr
 split at hr
 ·cases hr
 ·rename_i k vs hargs
  split at hr
  ·cases hr
  ·rename_i r0 is os ns hent
   have hent':=hent
   unfold zba at hent
   split at hent
   ·cases hent
   ·rename_i hs hhs
    split at hent
    ·cases hent
    ·rename_i L hL
     split at hent
     ·cases hent
     ·rename_i hp hh
      split at hent
      ·cases hent
      ·rename_i r' h' hc
       obtain ⟨n,hn⟩:=zc0.1 hc
       refine ⟨n, ?_⟩
       unfold ze8
       simp only [hargs]
       have:zba (zc2 E n) .keep (St.obj { s with heap:=s.heap++some (.lp 0 key (ks.map s.get)) :: List.replicate res none }) k vs res (s.heap.length + 1)=some (r0,is,os,ns):=by
        unfold zba
        simp only [hhs,hL,hh,hn]
        exact hent
       simp only [this]
       exact hr
theorem zwn (own:List (Nat × Nat))(f:A)(key:Nat)(ks:List Nat)(res:Nat)(s:St):lx E (.range own f key ks res) s=ze8 (lcall E) f key ks res (own.foldl zdn s):=by
 refine zef fun r=>?_
 rw [zbx]
 exact ⟨fun ⟨k,h⟩=>zsn (Le.lcall k) h,fun h=>zyb h⟩
theorem zul (s:St):lx E .skip s=some (.normal,s):=zbx.2 ⟨0,rfl⟩
theorem zum (id:Nat)(s:St):lx E (.exit id) s=some (.exit id,s):=zbx.2 ⟨0,rfl⟩
theorem z1r (s:St):lx E .ret s=some (.ret,s):=zbx.2 ⟨0,rfl⟩
theorem zg8 (d:Bool)(ops:List CO)(s:St):lx E (.region d ops) s=(match zbb (lcall E) d ops s with | some s'=>some (.normal,s') | none=>none):=by
 refine zef fun r=>?_
 rw [zbx]
 constructor
 ·rintro ⟨k,h⟩
  simp only [zbl] at h
  split at h
  ·rename_i s' hs
   rw [zli (Le.lcall k) hs]
   exact h
  ·cases h
 ·intro h
  split at h
  ·rename_i s' hs
   obtain ⟨k,hk⟩:=zqo hs
   exact ⟨k,by simp only [zbl,hk]; exact h⟩
  ·cases h
theorem zso (a b:CCode)(s:St):lx E (.seq a b) s=(match lx E a s with | some (.normal,s')=>lx E b s' | r=>r):=by
 refine zef fun r=>?_
 rw [zbx]
 constructor
 ·rintro ⟨k,h⟩
  simp only [zbl] at h
  split at h
  ·rename_i s' hs
   rw [zbx.2 ⟨k,hs⟩]
   exact zbx.2 ⟨k,h⟩
  ·rename_i hne
   rw [zbx.2 ⟨k,h⟩]
   split
   ·rename_i s' e; cases e; exact absurd h (hne s')
   ·rfl
 ·intro h
  split at h
  ·rename_i s' hs
   obtain ⟨k1,h1⟩:=zbx.1 hs
   obtain ⟨k2,h2⟩:=zbx.1 h
   refine ⟨max k1 k2, ?_⟩
   have m1:=Nat.le_max_left k1 k2
   have m2:=Nat.le_max_right k1 k2
   simp only [zbl,zb9 (zdg m1) a m1 h1]
   exact zb9 (zdg m2) b m2 h2
  ·rename_i hne
   obtain ⟨k,hk⟩:=zbx.1 h
   refine ⟨k, ?_⟩
   simp only [zbl]
   rw [hk]
   split
   ·rename_i s' e; cases e; exact absurd h (hne s')
   ·rfl
theorem zqp (c:A)(a b:CCode)(s:St):lx E (.cond c a b) s=(match s.ev c with | .d (.b true)=>lx E a s | .d (.b false)=>lx E b s | _=>none):=by
 refine zef fun r=>?_
 rw [zbx]
 simp only [zbl]
 generalize s.ev c=v
 cases v with
 | d x =>
  cases x with
  | b y=>cases y <;> exact zbx.symm
  | _=>simp
 | _=>simp
theorem zhn (id:Nat)(c:CCode)(s:St):lx E (.block id c) s=(match lx E c s with | some (.exit id',s')=>if id'=id then some (.normal,s') else some (.exit id',s') | r=>r):=by
 refine zef fun r=>?_
 rw [zbx]
 constructor
 ·rintro ⟨k,h⟩
  simp only [zbl] at h
  split at h
  ·rename_i id' s' hs
   rw [zbx.2 ⟨k,hs⟩]
   exact h
  ·rename_i hne
   rw [zbx.2 ⟨k,h⟩]
   split
   ·rename_i id' s' e; cases e; exact absurd h (hne id' s')
   ·rfl
 ·intro h
  split at h
  ·rename_i id' s' hs
   obtain ⟨k,hk⟩:=zbx.1 hs
   exact ⟨k,by simp only [zbl,hk]; exact h⟩
  ·rename_i hne
   obtain ⟨k,hk⟩:=zbx.1 h
   refine ⟨k, ?_⟩
   simp only [zbl]
   rw [hk]
   split
   ·rename_i id' s' e; cases e; exact absurd h (hne id' s')
   ·rfl
theorem z91 (ann:Ann)(c:CCode)(s:St):lx E (.loop ann c) s=lloop E c ann (enter ann s).heap.length (enter ann s):=by
 refine zef fun r=>?_
 rw [zbx,zj2]
 rfl
theorem zl6 (c:CCode)(ann:Ann)(n:Nat)(s:St):lloop E c ann n s=(match lx E c s with
  | some (.normal,s')=>match zkt ann n s' with | some s''=>lloop E c ann n s'' | none=>none
  | r=>r):=by
 refine zef fun r=>?_
 rw [zj2]
 constructor
 ·rintro ⟨k,h⟩
  cases k with
  | zero=>cases h
  | succ k =>
   simp only [zhc] at h
   split at h
   ·rename_i s' hs
    rw [zbx.2 ⟨_,hs⟩]
    simp only
    split at h
    ·rename_i s'' hb
     simp only [hb]
     exact zj2.2 ⟨k + 1,zj1 (fun _ _ h=>h) (Nat.le_succ k) h⟩
    ·cases h
   ·rename_i hne
    rw [zbx.2 ⟨_,h⟩]
    split
    ·rename_i s' e; cases e; exact absurd h (hne s')
    ·rfl
 ·intro h
  split at h
  ·rename_i s' hs
   obtain ⟨k1,h1⟩:=zbx.1 hs
   split at h
   ·rename_i s'' hb
    obtain ⟨k2,h2⟩:=zj2.1 h
    refine ⟨max k1 k2 + 1, ?_⟩
    have m1:k1 ≤ max k1 k2 + 1:=by omega
    have m2:k2 ≤ max k1 k2 + 1:=by omega
    simp only [zhc,zb9 (zdg m1) c m1 h1,hb]
    exact zj1 (fun s r hs=>zb9 (zdg m2) c m2 hs) (by omega) h2
   ·cases h
  ·rename_i hne
   obtain ⟨k,hk⟩:=zbx.1 h
   refine ⟨k + 1, ?_⟩
   have:=zb9 (zdg (Nat.le_succ k)) c (Nat.le_succ k) hk
   simp only [zhc]
   rw [this]
   split
   ·rename_i s' e; cases e; exact absurd h (hne s')
   ·rfl
theorem zks {key:Nat}{f:CFn}(h:E key=some (.code f))(args:List V)(hp:List (Option Obj)):lcall E key args hp=(match lx E f.body (zj7 args hp) with
  | some (.normal,s)=>zdo hp.length s f.rets
  | some (.ret,s)=>zdo hp.length s f.rets
  | _=>none):=by
 refine zef fun r=>?_
 rw [zc0]
 constructor
 ·rintro ⟨k,hk⟩
  cases k with
  | zero=>cases hk
  | succ k =>
   simp only [zc2,h,zhx] at hk
   split at hk
   ·rename_i s hs; rw [zbx.2 ⟨k,hs⟩]; exact hk
   ·rename_i s hs; rw [zbx.2 ⟨k,hs⟩]; exact hk
   ·cases hk
 ·intro hr
  split at hr
  ·rename_i s hs
   obtain ⟨k,hk⟩:=zbx.1 hs
   exact ⟨k + 1,by simp only [zc2,h,zhx,hk]; exact hr⟩
  ·rename_i s hs
   obtain ⟨k,hk⟩:=zbx.1 hs
   exact ⟨k + 1,by simp only [zc2,h,zhx,hk]; exact hr⟩
  ·cases hr
theorem zyc {key:Nat}{f:List V→List (Option Obj)→Option (V × List (Option Obj))}(h:E key=some (.prim f))(args:List V)(hp:List (Option Obj)):lcall E key args hp=f args hp:=by
 refine zef fun r=>?_
 rw [zc0]
 constructor
 ·rintro ⟨k,hk⟩
  cases k with
  | zero=>cases hk
  | succ k=>simpa only [zc2,h,zhx] using hk
 ·intro hr
  exact ⟨1,by simpa only [zc2,h,zhx] using hr⟩
theorem zun {key:Nat}{ps ks:List Nat}{a c:CCode}(h:E key=some (.round ps ks a c))(args:List V)(hp:List (Option Obj)):lcall E key args hp=zg7 (lx E a) (lx E c) key ps ks args hp:=by
 refine zef fun r=>?_
 rw [zc0]
 constructor
 ·rintro ⟨k,hk⟩
  cases k with
  | zero=>cases hk
  | succ k =>
   simp only [zc2,h,zhx,ziu] at hk
   exact znf (fun s r hs=>zbx.2 ⟨k,hs⟩) (fun s r hs=>zbx.2 ⟨k,hs⟩) hk
 ·intro hr
  obtain ⟨k,hk⟩:=zya (xa:=fun k=>zbl (zc2 E k) k a) (xc:=fun k=>zbl (zc2 E k) k c) (fun k k' s r hk hs=>zb9 (zdg hk) a hk hs) (fun k k' s r hk hs=>zb9 (zdg hk) c hk hs)
   (fun s r hs=>zbx.1 hs) (fun s r hs=>zbx.1 hs) hr
  exact ⟨k + 1,by simpa only [zc2,h,zhx,ziu] using hk⟩
theorem z50 {P:Program}{tab:Tab}(hT:TabOk P tab E):CallOk P tab (lcall E) :=
 ⟨fun fid key hk ds hp r hp' h=>by
  obtain ⟨k,hk'⟩:=zc0.1 h
  exact (zl5 hT k).fn fid key hk ds hp r hp' hk',fun key R hk ds hp r hp' h=>by
  obtain ⟨k,hk'⟩:=zc0.1 h
  exact (zl5 hT k).rnd key R hk ds hp r hp' hk'⟩
end
open Go
def tyD (P:Program):Nat→TypeId→List D→Prop
 | 0,_,_=>False
 | f + 1,t,ds=>match P.underlying t with
  | some .bool=>∃ b,ds=[.b b]
  | some (.int k)=>∃ n,ds=[.i k n]∧(Lit.int k n).wf=true
  | some .string=>∃ x,ds=[.s x]∧x.length ≤ maxLen
  | some (.pointer e)=>ds=[.np] ∨ ∃ xs,ds=[.q xs 0]∧xs.length=P.cellsOf e∧tyD P f e xs
  | some (.slice e)=>∃ xs,ds=[.l (P.cellsOf e) xs]∧xs.length ≤ maxLen∧∀ r ∈ xs,r.length=P.cellsOf e∧tyD P f e r
  | some (.struct fs)=>ds.length=P.cellsOf t∧∀ x ∈ fs.toList,tyD P f x.type ((ds.drop x.offset).take (P.cellsOf x.type))
  | some (.array n e)=>ds.length=P.cellsOf t∧∀ i,i < n→tyD P f e ((ds.drop (i * P.cellsOf e)).take (P.cellsOf e))
  | _=>False
def zsp (P:Program)(size:Nat):List Field→Nat→Bool
 | [],off=>decide (off=size)
 | x :: r,off=>decide (x.offset=off) && zsp P size r (off + P.cellsOf x.type)
def zqq (P:Program)(T:List TypeId):Bool:=T.all fun t=>match P.underlying t with
 | some .bool | some (.int _) | some .string=>decide (P.cellsOf t=1)
 | some (.pointer e)=>T.contains e && decide (P.cellsOf t=1) && decide (P.cellsOf e ≠ 0)
 | some (.slice e)=>T.contains e && decide (P.cellsOf t=1) && decide (P.cellsOf e ≠ 0)
 | some (.struct fs)=>zsp P (P.cellsOf t) fs.toList 0 && fs.toList.all fun x=>T.contains x.type
 | some (.array n e)=>T.contains e && decide (P.cellsOf t=n * P.cellsOf e)
 | _=>false
section
variable {P:Program} {tab:Tab} {w:World}
def old (w:World):Nat→Nat→Prop:=fun b _=>b < w.heap.size
theorem zj3 {α β:Type}{f:α→Option β}:∀ {l:List α} {r:List β},l.mapM f=some r→r.length=l.length∧∀ (i:Nat) (x:α),l[i]?=some x→∃ y,r[i]?=some y∧f x=some y
 | [],r,h=>by simp at h; subst h; exact ⟨rfl,fun i x h=>by simp at h⟩
 | a :: l,r,h=>by
  rw [List.mapM_cons] at h
  simp only [bind,Option.bind_eq_some_iff,pure,Qa] at h
  obtain ⟨y,hy,r',hr,rfl⟩:=h
  obtain ⟨k1,k2⟩:=zj3 hr
  refine ⟨by simp [k1],fun i x hx=>?_⟩
  cases i with
  | zero=>simp only [List.getElem?_cons_zero,Qa] at hx; subst hx; exact ⟨y,rfl,hy⟩
  | succ i=>simpa using k2 i x (by simpa using hx)
theorem z51 {a:Addr}(h:(a.add 0).spot=none):a.spot=none:=by
 simpa [Addr.add] using h
theorem zsq {a:Addr}(h:a.spot=none):a=zad a.block a.off:=by
 obtain ⟨b,o,sp⟩:=a
 cases h
 rfl
theorem ziv {base:Nat}{a:Addr}{n:Nat}{cs:List Value}(h:w.cells? base a n=some cs)(hn:n ≠ 0):cs.length=n∧a=zad a.block a.off∧a.block < w.heap.size∧zbz w a.block a.off cs:=by
 unfold World.cells? at h
 split at h
 ·obtain ⟨k1,k2⟩:=zj3 h
  rw [List.length_range] at k1
  obtain ⟨y,hy,h0⟩:=k2 0 0 (by rw [List.getElem?_range (by omega)])
  have hspot:a.spot=none∧a.block < w.heap.size:=by
   unfold World.cell? at h0
   have:(a.add 0).block=a.block∧((a.add 0).spot=none→a.spot=none):=by
    unfold Addr.add
    split <;> simp_all
   constructor
   ·refine this.2 ?_
    split at h0
    ·split at h0
     ·cases h0
     ·rename_i hs; simpa using hs
    ·cases h0
   ·rw [← this.1]
    split at h0
    ·rename_i hb
     rcases Qn (a.add 0).block w.heap.size with h | h
     ·exact h
     ·rw [Array.getElem?_eq_none h] at hb; cases hb
    ·cases h0
  have ha:a=zad a.block a.off:=by
   cases a
   simp only [zad] at *
   simp [hspot.1]
  refine ⟨k1,ha,hspot.2,fun q v hq=>?_⟩
  have hlt:q < n:=by
   rcases Qn q cs.length with h | h
   ·omega
   ·rw [Qe h] at hq; cases hq
  obtain ⟨y,hy,hv⟩:=k2 q q (by rw [List.getElem?_range hlt])
  rw [hq] at hy
  cases hy
  rw [← hv,← zfo,← ha]
 ·cases h
theorem zpk {b o:Nat}{xs:List D}{us:List Value}(hd:zan tab (old w) w xs us)(hh:zbz w b o us)(hb:b < w.heap.size):zat tab (old w) w b o xs :=
 zat.mk hd hh (fun _ _=>hb)
theorem Zel {T:List TypeId}{f:Nat}{im:Nat→Nat→Prop}{size:Nat}{cs:List Value}(hl:cs.length=size):∀ (fs:List Field) (off:Nat),zsp P size fs off=true→off ≤ size →
  (∀ x ∈ fs,∃ ds,zan tab im w ds ((cs.drop x.offset).take (P.cellsOf x.type))∧tyD P f x.type ds) →
  ∃ ds,zan tab im w ds (cs.drop off)∧∀ x ∈ fs,off ≤ x.offset∧tyD P f x.type ((ds.drop (x.offset - off)).take (P.cellsOf x.type))
 | [],off,ht,hle,h=>by
  simp only [zsp,Qh] at ht
  refine ⟨[], ?_,fun x hx=>by simp at hx⟩
  rw [List.drop_eq_nil_of_le (by omega)]
  simp only [zan]
 | x :: fs,off,ht,hle,h=>by
  simp only [zsp,Qi,Qh] at ht
  obtain ⟨h1,h2⟩:=ht
  obtain ⟨ds1,k1,k2⟩:=h x (by simp)
  have hmore:∀ (fs:List Field) (off:Nat),zsp P size fs off=true→off ≤ size:=by
   intro fs
   induction fs with
   | nil=>intro off h; simp only [zsp,Qh] at h; omega
   | cons y fs ih=>intro off h; simp only [zsp,Qi,Qh] at h; have:=ih _ h.2; omega
  have hle2:=hmore fs _ h2
  obtain ⟨ds2,m1,m2⟩:=Zel (T:=T) hl fs (off + P.cellsOf x.type) h2 hle2 (fun y hy=>h y (by simp [hy]))
  have hlen1:ds1.length=P.cellsOf x.type:=by
   have:=k1.length
   rw [List.length_take,List.length_drop] at this
   omega
  refine ⟨ds1++ds2, ?_,fun y hy=>?_⟩
  ·have:=k1.append m1
   rw [h1] at this
   rw [← List.drop_drop] at this
   rwa [List.take_append_drop] at this
  ·rcases List.mem_cons.1 hy with rfl | hy
   ·refine ⟨by omega, ?_⟩
    rw [h1,Nat.sub_self,List.drop_zero,← hlen1,List.take_left' rfl]
    exact k2
   ·obtain ⟨q1,q2⟩:=m2 y hy
    refine ⟨by omega, ?_⟩
    have:y.offset - off=ds1.length + (y.offset - (off + P.cellsOf x.type)):=by omega
    rw [this,← List.drop_drop,List.drop_left' rfl]
    exact q2
theorem z7l {f:Nat}{im:Nat→Nat→Prop}{e:TypeId}{cs:List Value}{c:Nat}:∀ (m i:Nat),cs.length=(i + m) * c →
  (∀ j,i ≤ j→j < i + m→∃ ds,zan tab im w ds ((cs.drop (j * c)).take c)∧tyD P f e ds) →
  ∃ xs:List (List D),xs.length=m∧zan tab im w xs.flatten (cs.drop (i * c))∧∀ r ∈ xs,r.length=c∧tyD P f e r
 | 0,i,hl,h=>⟨[],rfl,by rw [List.drop_eq_nil_of_le (by rw [hl]; simp)]; simp [zan],by simp⟩
 | m + 1,i,hl,h=>by
  obtain ⟨ds,k1,k2⟩:=h i (Nat.le_refl _) (by omega)
  obtain ⟨xs,m1,m2,m3⟩:=z7l m (i + 1) (by rw [hl]; congr 1; omega) (fun j h1 h2=>h j (by omega) (by omega))
  have hge:(i + 1) * c ≤ cs.length:=by rw [hl]; exact Nat.mul_le_mul_right _ (by omega)
  rw [Nat.add_mul,Nat.one_mul] at hge
  have hlen:ds.length=c:=by
   have:=k1.length
   rw [List.length_take,List.length_drop] at this
   omega
  refine ⟨ds :: xs,by simp [m1], ?_,fun r hr=>?_⟩
  ·rw [List.flatten_cons]
   have:=k1.append m2
   rw [Nat.add_mul,Nat.one_mul,← List.drop_drop] at this
   rwa [List.take_append_drop] at this
  ·rcases List.mem_cons.1 hr with rfl | hr
   ·exact ⟨hlen,k2⟩
   ·exact m3 r hr
theorem zlj {c:Nat}:∀ (xs:List (List D)) (i:Nat),(∀ r ∈ xs,r.length=c)→i < xs.length→(xs.flatten.drop (i * c)).take c ∈ xs
 | x :: xs,0,h,hi=>by
  rw [Nat.zero_mul,List.drop_zero,List.flatten_cons,← h x (by simp),List.take_left' rfl]
  simp
 | x :: xs,i + 1,h,hi=>by
  have hx:=h x (by simp)
  rw [Nat.add_mul,Nat.one_mul,List.flatten_cons,Nat.add_comm,← List.drop_drop]
  have:(x++xs.flatten).drop c=xs.flatten:=List.drop_left' hx
  rw [this]
  exact List.mem_cons_of_mem _ (zlj xs i (fun r hr=>h r (by simp [hr])) (by simpa using hi))
 | [],_,_,hi=>by simp at hi
theorem zwo {H:Type}{enc:TypeId × Value→H}{spare:Nat→Bool}{held:Bool}{T:List TypeId}(hT:zqq P T=true):∀ (fuel:Nat) (t:TypeId),t ∈ T→∀ (cs:List Value) (x:DataW H × List MemPlace),DataW.trod enc P w 0 spare held fuel t cs=some x →
  ∃ ds,zan tab (old w) w ds cs∧tyD P fuel t ds
 | 0,t,ht,cs,x,h=>by simp [DataW.trod] at h
 | fuel + 1,t,ht,cs,x,h=>by
  have ih:=zwo (enc:=enc) (spare:=spare) (held:=held) hT fuel
  have hg:=List.all_eq_true.1 hT t ht
  unfold DataW.trod at h
  unfold tyD
  cases hu:P.underlying t with
  | none=>simp [hu] at hg
  | some kd =>
   cases kd <;> simp only [hu] at hg h ⊢ <;> try (cases hg; done)
   case bool =>
    match cs,h with
    | [.bool b],h=>exact ⟨[.b b],by simp [zan,za6],b,rfl⟩
   case int k =>
    match cs,h with
    | [.int k' n],h =>
     simp only at h
     split at h
     ·rename_i hc
      obtain ⟨rfl,hw⟩:=hc
      exact ⟨[.i k' n],by simp [zan,za6],n,rfl,hw⟩
     ·cases h
   case string =>
    match cs,h with
    | [.string s],h =>
     simp only at h
     split at h
     ·rename_i hc
      exact ⟨[.s s.data.toList],by simp only [zan,za6]; exact ⟨⟨s,rfl,rfl⟩,trivial⟩,_,rfl,by rw [Array.length_toList]; exact hc⟩
     ·cases h
   case pointer e =>
    simp only [Qi,Qh,List.contains_iff_mem] at hg
    match cs,h with
    | [.pointer none],h=>exact ⟨[.np],by simp [zan,za6],.inl rfl⟩
    | [.pointer (some a)],h =>
     simp only [Option.map_eq_some_iff,Option.bind_eq_some_iff] at h
     obtain ⟨y,⟨us,h1,h2⟩,_⟩:=h
     obtain ⟨k1,k2,k3,k4⟩:=ziv h1 hg.2
     obtain ⟨ds,m1,m2⟩:=ih e hg.1.1 us y h2
     refine ⟨[.q ds 0], ?_,.inr ⟨ds,rfl,by rw [← m1.length,k1],m2⟩⟩
     simp only [zan,za6]
     refine ⟨⟨a.block,a.off, ?_,zpk m1 k4 k3⟩,trivial⟩
     rw [Nat.add_zero]
     exact congrArg (fun a=>Value.pointer (some a)) k2
   case slice e =>
    simp only [Qi,Qh,List.contains_iff_mem] at hg
    match cs,h with
    | [.slice none 0 0],h=>exact ⟨[.l (P.cellsOf e) []],by simp only [zan,za6]; exact ⟨⟨none,0,rfl,Nat.le_refl _,by simp,.inl trivial⟩,trivial⟩,[],rfl,by simp,by simp⟩
    | [.slice (some a) len cap],h =>
     simp only at h
     split at h
     ·rename_i hc
      simp only [Option.bind_eq_some_iff] at h
      obtain ⟨elems,h1,h2⟩:=h
      obtain ⟨n1,n2⟩:=zj3 h1
      rw [List.length_range] at n1
      have each:∀ i,i < len→∃ us ds,w.cells? 0 (a.add (i * P.cellsOf e)) (P.cellsOf e)=some us∧zan tab (old w) w ds us∧tyD P fuel e ds:=fun i hi=>by
       obtain ⟨y,_,hy⟩:=n2 i i (by rw [List.getElem?_range hi])
       simp only [Option.bind_eq_some_iff] at hy
       obtain ⟨us,m1,m2⟩:=hy
       obtain ⟨ds,m3,m4⟩:=ih e hg.1.1 us y m2
       exact ⟨us,ds,m1,m3,m4⟩
      rcases Nat.eq_zero_or_pos len with hz | hz
      ·subst hz
       exact ⟨[.l (P.cellsOf e) []],by simp only [zan,za6]; exact ⟨⟨some a,cap,rfl,Nat.zero_le _,by simp,.inl trivial⟩,trivial⟩,[],rfl,by simp,by simp⟩
      ·have ha:a=zad a.block a.off∧a.block < w.heap.size:=by
        obtain ⟨us,ds,m1,_⟩:=each 0 hz
        obtain ⟨_,k2,k3,_⟩:=ziv m1 hg.2
        have hb:(a.add (0 * P.cellsOf e)).block=a.block:=by unfold Addr.add; split <;> rfl
        rw [hb] at k3
        have h0:(a.add 0).spot=none:=by rw [Nat.zero_mul] at k2; rw [k2]
        exact ⟨zsq (z51 h0),k3⟩
       have rows:∀ (m i:Nat),i + m=len→∃ xs:List (List D),xs.length=m∧zbg tab (old w) w a.block (a.off + i * P.cellsOf e) xs∧∀ r ∈ xs,r.length=P.cellsOf e∧tyD P fuel e r:=by
        intro m
        induction m with
        | zero=>intro i _; exact ⟨[],rfl,by simp only [zbg],by simp⟩
        | succ m ihm =>
         intro i hi
         obtain ⟨us,ds,m1,m2,m3⟩:=each i (by omega)
         obtain ⟨k1,k2,k3,k4⟩:=ziv m1 hg.2
         obtain ⟨xs,q1,q2,q3⟩:=ihm (i + 1) (by omega)
         have hadd:a.add (i * P.cellsOf e)=zad a.block (a.off + i * P.cellsOf e):=by
          conv=>lhs; rw [ha.1]
          exact zfo _ _ _
         rw [hadd] at k4
         have hlen:ds.length=P.cellsOf e:=by rw [← m2.length,k1]
         refine ⟨ds :: xs,by simp [q1], ?_,fun r hr=>?_⟩
         ·simp only [zbg]
          refine ⟨zpk m2 k4 ha.2, ?_⟩
          rw [hlen,Nat.add_assoc,show i * P.cellsOf e + P.cellsOf e=(i + 1) * P.cellsOf e by rw [Nat.add_mul,Nat.one_mul]]
          exact q2
         ·rcases List.mem_cons.1 hr with rfl | hr
          ·exact ⟨hlen,m3⟩
          ·exact q3 r hr
       obtain ⟨xs,q1,q2,q3⟩:=rows len 0 (by omega)
       rw [Nat.zero_mul,Nat.add_zero] at q2
       refine ⟨[.l (P.cellsOf e) xs], ?_,xs,rfl,by omega,q3⟩
       simp only [zan,za6]
       exact ⟨⟨some a,cap,by rw [q1],by omega,fun r hr=>(q3 r hr).1,.inr ⟨a.block,a.off,by rw [← ha.1],q2⟩⟩,trivial⟩
     ·cases h
   case struct fs =>
    simp only [Qi,List.all_eq_true,List.contains_iff_mem] at hg
    split at h
    ·rename_i hl
     simp only [Option.map_eq_some_iff] at h
     obtain ⟨ys,h1,_⟩:=h
     obtain ⟨n1,n2⟩:=zj3 h1
     obtain ⟨ds,k1,k2⟩:=Zel (tab:=tab) (w:=w) (T:=T) (f:=fuel) (im:=old w) hl fs.toList 0 hg.1 (Nat.zero_le _) (fun x hx=>by
      obtain ⟨i,hi,e⟩:=List.getElem_of_mem hx
      obtain ⟨y,_,hy⟩:=n2 i x (by rw [Qd hi,e])
      exact ih x.type (hg.2 x hx) _ y hy)
     rw [List.drop_zero] at k1
     exact ⟨ds,k1,by rw [← k1.length,hl],fun x hx=>by simpa using (k2 x hx).2⟩
    ·cases h
   case array n e =>
    simp only [Qi,Qh,List.contains_iff_mem] at hg
    split at h
    ·rename_i hl
     simp only [Option.map_eq_some_iff] at h
     obtain ⟨ys,h1,_⟩:=h
     obtain ⟨n1,n2⟩:=zj3 h1
     obtain ⟨xs,k1,k2,k3⟩:=z7l (tab:=tab) (w:=w) (P:=P) (f:=fuel) (im:=old w) (e:=e) (cs:=cs) (c:=P.cellsOf e) n 0 (by rw [hl,hg.2,Nat.zero_add]) (fun j _ hj=>by
      obtain ⟨y,_,hy⟩:=n2 j j (by rw [List.getElem?_range (by omega)])
      exact ih e hg.1 _ y hy)
     rw [Nat.zero_mul,List.drop_zero] at k2
     refine ⟨xs.flatten,k2,by rw [← k2.length,hl],fun i hi=>?_⟩
     exact (k3 _ (zlj xs i (fun r hr=>(k3 r hr).1) (by omega))).2
    ·cases h
end
open Go Go.RowKit Go.ChangeShapes Go.WideShapes Go.ChangeAt
section
variable {P:Program} {H:Type} {enc:TypeId × Value→H}
theorem zj4 (hl:laidOutB P=true){W W':World}(hb:Below W.heap.size W W'):∀ {ts:List TypeId} {vs:List Value} {ds:List (DataW H)} {ps:List MemPlace},(∀ t ∈ ts,P.readableRec t=true∧t < P.types.size) →
  DataW.TrodAll enc P W 0 (fun _=>true) true ts vs ds ps→(∀ p ∈ ps,p.block < W.heap.size)→DataW.TrodAll enc P W' 0 (fun b=>decide (b < W.heap.size)) true ts vs ds ps
 | [],[],[],ps,_,h,_=>h
 | t :: ts,v :: vs,d :: ds,ps,hr,⟨p,q,h1,h2,e⟩,hlt=>by
  subst e
  exact ⟨p,q,Below.trod hl (hr t (by simp)).1 (hr t (by simp)).2 h1 hb (fun x hx=>hlt x (by simp [hx])),zj4 hl hb (fun t ht=>hr t (by simp [ht])) h2 (fun x hx=>hlt x (by simp [hx])),rfl⟩
 | [],[],_ :: _,_,_,h,_=>h.elim
 | [],_ :: _,_,_,_,h,_=>h.elim
 | _ :: _,[],_,_,_,h,_=>h.elim
 | _ :: _,_ :: _,[],_,_,h,_=>h.elim
theorem z52 {s:ChangeSpec}{f:Func}{tb:TypeId}(hvars:s.vars=[])(hrt:f.resultTypes = #[tb])(htb:P.underlying tb=some .bool)(hl:laidOutB P=true)(hr:∀ t ∈ f.params.toList,P.readableRec t=true∧t < P.types.size)
  {W W':World} {args:Array Value} {ds gs:List (DataW H)} {before:List MemPlace} (hW:DataW.Whole enc P f.params.toList s.vars false W args.toList ds gs before) (hfn:(s.fn H (ds++gs)).results=[.lit (.bool true)]∧(s.fn H (ds++gs)).args=ds∧(s.fn H (ds++gs)).vars=[]) (hb:Below W.heap.size W W') :
  s.post enc P f false true false false W args (.bool true) W':=by
 have hlt:=hW.lt
 have hW':=hW
 obtain ⟨p,q,hA,hV,rfl,hz,hn⟩:=hW
 rw [hvars] at hV
 refine ⟨ds,gs,_,[],p,[],hW', ?_, ?_, ?_,hb.frame _,fun h=>by cases h⟩
 ·rw [hfn.1,hrt]
  exact trodAll_mk1 (shut_bool htb _)
 ·rw [hfn.2.1]
  exact zj4 hl hb hr hA (fun x hx=>hlt x (by simp [hx]))
 ·rw [hvars,hfn.2.2]
  rfl
def Zmj (P:Program)(t:TypeId)(ds:List D):V:=if zas P t then .agg (ofDs ds) else .d (ds.headD .np)
inductive TyArgs (P:Program):List TypeId→List V→Prop where
 | nil:TyArgs P [] []
 | cons {t:TypeId} {ts:List TypeId} {as:List V} (f:Nat) (ds:List D) (h:tyD P f t ds) (r:TyArgs P ts as):TyArgs P (t :: ts) (Zmj P t ds :: as)
theorem zwp {tab:Tab}{T:List TypeId}(hT:zqq P T=true){W:World}(at_:Nat→Place)(obj:Nat→Option Obj):∀ {ts:List TypeId} {vs:List Value} {ds:List (DataW H)} {ps:List MemPlace},(∀ t ∈ ts,t ∈ T) →
  (∀ (j:Nat) t v,ts[j]?=some t→vs[j]?=some v→∃ r b,Value.okWide P W r b t v)→DataW.TrodAll enc P W 0 (fun _=>true) true ts vs ds ps→∃ as,TyArgs P ts as∧zaf tab ⟨at_,old W⟩ obj W as vs
 | [],[],[],ps,_,_,_=>⟨[],.nil,by simp only [zaf]⟩
 | t :: ts,v :: vs,d :: ds,ps,ht,hv,⟨p,q,⟨fuel,h1⟩,h2,e⟩=>by
  obtain ⟨as,k1,k2⟩:=zwp hT at_ obj (fun t h=>ht t (by simp [h])) (fun j t v a b=>hv (j + 1) t v (by simpa using a) (by simpa using b)) h2
  obtain ⟨xs,m1,m2⟩:=zwo (tab:=tab) hT fuel t (ht t (by simp)) _ _ h1
  refine ⟨Zmj P t xs :: as,.cons fuel xs m2 k1, ?_⟩
  simp only [zaf]
  refine ⟨?_,k2⟩
  obtain ⟨r,b,hw⟩:=hv 0 t v rfl rfl
  unfold Zmj
  unfold Value.okWide at hw
  cases ha:zas P t with
  | true =>
   have:∃ cs,v = .agg cs:=by
    unfold zas at ha
    split at ha
    ·rename_i hu; rw [hu] at hw; exact hw.imp fun cs h=>h.1
    ·rename_i hu; rw [hu] at hw; exact hw.imp fun cs h=>h.1
    ·cases ha
   obtain ⟨cs,rfl⟩:=this
   simp only [if_true,zag]
   exact ⟨cs.toList,by simp,zai.ofDs (g:=⟨at_,old W⟩) m1⟩
  | false =>
   simp only [Qm,if_false,zag]
   have hone:∃ x,xs=[x]:=by
    cases fuel with
    | zero=>simp [tyD] at m2
    | succ fuel =>
     unfold tyD at m2
     unfold zas at ha
     cases hu:P.underlying t with
     | none=>simp [hu] at m2
     | some kd =>
      cases kd <;> simp only [hu] at m2 ha <;> try (cases m2; done)
      ·obtain ⟨b,rfl⟩:=m2; exact ⟨_,rfl⟩
      ·obtain ⟨n,rfl,_⟩:=m2; exact ⟨_,rfl⟩
      ·obtain ⟨x,rfl,_⟩:=m2; exact ⟨_,rfl⟩
      ·rcases m2 with rfl | ⟨x,rfl,_⟩ <;> exact ⟨_,rfl⟩
      ·obtain ⟨x,rfl,_⟩:=m2; exact ⟨_,rfl⟩
      all_goals (cases ha)
   obtain ⟨x,rfl⟩:=hone
   obtain ⟨u,hu,hd⟩:=ziq m1
   simp only [List.headD_cons]
   have:v=u:=by
    cases v <;> simp_all [Value.cells]
    rename_i cs
    exfalso
    unfold zas at ha
    split at hw
    ·rename_i hu'; rw [hu'] at ha; cases ha
    ·rename_i hu'; rw [hu'] at ha; cases ha
    ·unfold Cell.okWide at hw
     cases hu':P.underlying t with
     | none=>simp [hu',Cell.ok] at hw
     | some kd=>cases kd <;> simp [hu',Cell.ok] at hw
   rw [this]
   exact hd
 | [],[],_ :: _,_,_,_,h=>h.elim
 | [],_ :: _,_,_,_,_,h=>h.elim
 | _ :: _,[],_,_,_,_,h=>h.elim
 | _ :: _,_ :: _,[],_,_,_,h=>h.elim
theorem z1s {tab:Tab}{E:Nat→Option Fn}(hTab:TabOk P tab E){T:List TypeId}(hT:zqq P T=true){fid key:Nat}(hk:zfh tab fid=some key){ts:List TypeId}(hts:∀ t ∈ ts,t ∈ T)(hlaw:∀ as,TyArgs P ts as→∃ h',lcall E key as []=some (.d (.b true),h'))
  {W:World} {args:Array Value} {ds:List (DataW H)} {ps:List MemPlace} (hA:DataW.TrodAll enc P W 0 (fun _=>true) true ts args.toList ds ps) (hv:∀ (j:Nat) t v,ts[j]?=some t→args.toList[j]?=some v→∃ r b,Value.okWide P W r b t v) :
  Go.Calls P fid args W fun e W'=>e = .returned (.bool true)∧Below W.heap.size W W':=by
 have hnone:zaw []=fun _=>none:=rfl
 obtain ⟨as,k1,k2⟩:=zwp (tab:=tab) hT (fun _=>⟨0,0,0⟩) (zaw []) hts hv hA
 obtain ⟨h',hl⟩:=hlaw as k1
 have:=(z50 hTab).fn fid key hk as [] _ h' hl ⟨fun _=>⟨0,0,0⟩,old W⟩ W args.toList (by rw [hnone]; exact z1n fun b o h=>h) k2
 rw [Array.toArray_toList] at this
 refine this.mono fun e W' ⟨v,g',h1,h2,h3,h4⟩=>?_
 simp only [zag,za6] at h4
 subst h4
 exact ⟨h1,z5v (by rw [← hnone]; exact h3)⟩
end
open Go
def zfm:Code→List (Array Nat × Code × Code)
 | .seq a b=>zfm a++zfm b
 | .cond _ a b=>zfm a++zfm b
 | .block _ c=>zfm c
 | .loop c=>zfm c
 | .scope c=>zfm c
 | .rangeFunc _ ps a b=>[(ps,a,b)]
 | _=>[]
def z1t:List Nat→Code→Option (Array Nat × Code × Code)
 | [],_=>none
 | i :: p,c=>match (zfm c)[i]? with
  | some x=>match p with
   | []=>some x
   | _ :: _=>z1t p (.seq x.2.1 x.2.2)
  | none=>none
def Zrm (f:Func)(path ks:List Nat):Round :=
 match f.body with
 | some b=>match z1t path b with
  | some x=>{ fn:=0,ps:=x.1,assign:=x.2.1,body:=x.2.2,ks,nt:=f.ntmps }
  | none=>{ fn:=0,ps:=#[],assign:=.skip,body:=.skip,ks:=[],nt:=0 }
 | none=>{ fn:=0,ps:=#[],assign:=.skip,body:=.skip,ks:=[],nt:=0 }
section
variable {P:Program} {tab:Tab} {E:Nat→Option Fn}
structure CodeAt (P:Program)(tab:Tab)(E:Nat→Option Fn)(p:Nat × Nat):Prop where
 code:∀ cf,E p.2=some (.code cf)→∃ fn notes outs,P.funcs[p.1]?=some fn∧zak P tab fn notes=some (cf,outs)∧∀ o ∈ outs,zna tab fn.ntmps o
 rnd:∀ ps ks a c,E p.2 ≠ some (.round ps ks a c)
 prim:∀ f,E p.2=some (.prim f)→z61 P tab p.1 f
theorem z92 {f key:Nat}{cf:CFn}{fn:Func}{n:Notes}{outs:List (Nat × Array Nat × Code × Code × List Nat)}(he:E key=some (.code cf))(hf:P.funcs[f]?=some fn)(hc:zak P tab fn n=some (cf,outs))(ho:∀ o ∈ outs,zna tab fn.ntmps o):CodeAt P tab E (f,key) where
 code:=fun cf' h=>by
  rw [show E (f,key).2=some (.code cf) from he] at h
  cases h
  exact ⟨fn,n,outs,hf,hc,ho⟩
 rnd:=fun ps ks a c h=>by rw [show E (f,key).2=some (.code cf) from he] at h; cases h
 prim:=fun g h=>by rw [show E (f,key).2=some (.code cf) from he] at h; cases h
theorem zae {f key:Nat}{cf:CFn}{fn:Func}{n:Notes}(he:E key=some (.code cf))(hf:P.funcs[f]?=some fn)(hc:zak P tab fn n=some (cf,[])):CodeAt P tab E (f,key) :=
 z92 he hf hc (fun o h=>by cases h)
theorem Zmk {f key:Nat}(he:E key=none):CodeAt P tab E (f,key) where
 code:=fun cf' h=>by rw [show E (f,key).2=none from he] at h; cases h
 rnd:=fun ps ks a c h=>by rw [show E (f,key).2=none from he] at h; cases h
 prim:=fun g h=>by rw [show E (f,key).2=none from he] at h; cases h
theorem Zml {f key:Nat}{g:List V→List (Option Obj)→Option (V × List (Option Obj))}(he:E key=some (.prim g))(hg:z61 P tab f g):CodeAt P tab E (f,key) where
 code:=fun cf' h=>by rw [show E (f,key).2=some (.prim g) from he] at h; cases h
 rnd:=fun ps ks a c h=>by rw [show E (f,key).2=some (.prim g) from he] at h; cases h
 prim:=fun g' h=>by
  rw [show E (f,key).2=some (.prim g) from he] at h
  cases h
  exact hg
def z53 (P:Program)(tab:Tab)(E:Nat→Option Fn)(p:Nat × Round):Prop :=
 ∀ f,E p.1=some f→∃ ps a c notes outs,f = .round ps p.2.ks a c∧p.2.ps=ps.toArray∧ps.Nodup∧(∀ q ∈ ps,q < p.2.nt)∧znm P tab p.2 notes=some (a,c,outs)∧∀ o ∈ outs,zna tab p.2.nt o
theorem Znr {key:Nat}{R:Round}{ps ks:List Nat}{a c:CCode}{n:Notes}{outs:List (Nat × Array Nat × Code × Code × List Nat)}(he:E key=some (.round ps ks a c))(hk:R.ks=ks)(hp:R.ps=ps.toArray)(hn:decide (ps.Nodup)=true)(hl:ps.all (fun q=>decide (q < R.nt))=true)
  (hc:znm P tab R n=some (a,c,outs)) (ho:∀ o ∈ outs,zna tab R.nt o):z53 P tab E (key,R):=fun f h=>by
 rw [show E (key,R).1=some (.round ps ks a c) from he] at h
 cases h
 exact ⟨ps,a,c,n,outs,by rw [hk],hp,of_decide_eq_true hn,fun q hq=>of_decide_eq_true (List.all_eq_true.1 hl q hq),hc,ho⟩
theorem Zns {key:Nat}{R:Round}(he:E key=none):z53 P tab E (key,R):=fun f h=>by
 rw [show E (key,R).1=none from he] at h; cases h
theorem Znt {k nt:Nat}{R:Round}(h:zsy tab k=some R)(hn:Nat.ble R.nt nt=true):zna tab nt (k,R.ps,R.assign,R.body,R.ks) :=
 ⟨R,h,rfl,rfl,rfl,rfl,Nat.le_of_ble_eq_true hn⟩
theorem zng:∀ {l:List (Nat × Nat)} {f key:Nat},(l.find? fun p=>p.1 == f).map (·.2)=some key→(f,key) ∈ l
 | [],f,key,h=>by cases h
 | (a,b) :: r,f,key,h=>by
  simp only [List.find?_cons] at h
  cases hb:a == f with
  | true =>
   rw [hb] at h
   simp only [Option.map_some,Qa] at h
   subst h
   rw [eq_of_beq hb]
   exact List.mem_cons_self
  | false =>
   rw [hb] at h
   exact List.mem_cons_of_mem _ (zng (l:=r) h)
theorem z1u:∀ {l:List (Nat × Round)} {k:Nat} {R:Round},(l.find? fun p=>p.1 == k).map (·.2)=some R→(k,R) ∈ l
 | [],k,R,h=>by cases h
 | (a,b) :: r,k,R,h=>by
  simp only [List.find?_cons] at h
  cases hb:a == k with
  | true =>
   rw [hb] at h
   simp only [Option.map_some,Qa] at h
   subst h
   rw [eq_of_beq hb]
   exact List.mem_cons_self
  | false =>
   rw [hb] at h
   exact List.mem_cons_of_mem _ (z1u (l:=r) h)
theorem Zem (hb:∀ p ∈ tab.fns,∀ args w,(callFunc p.1 args).run P w = .ok (.enter p.1 args) w)(hm:P.follows .mixedOrders=true)(hf:∀ p ∈ tab.fns,CodeAt P tab E p)(hr:∀ p ∈ tab.rnds,z53 P tab E p):TabOk P tab E where
 body:=fun f key h=>hb (f,key) (zng h)
 mixed:=hm
 code:=fun fid key cf h he=>(hf (fid,key) (zng h)).code cf he
 noRnd:=fun fid key ps ks a c h=>(hf (fid,key) (zng h)).rnd ps ks a c
 prim:=fun fid key f h he=>(hf (fid,key) (zng h)).prim f he
 rnd:=fun key R f h he=>hr (key,R) (z1u h) f he
end
end Ab
