/-
 Which code stands at which key.
-/
import Derived.Test.YtdbjkmciidcanaaGreatText1
import Derived.Test.YtdbjkmciidcanaaGreatText0
import Derived.Test.YtdbjkmciidcanaaGreatPack5
set_option linter.unusedSimpArgs false
set_option linter.unusedVariables false
set_option linter.unusedSectionVars false
set_option linter.unnecessarySimpa false
set_option maxRecDepth 100000
namespace Ab
structure AE (E:Nat→Option Fn):Prop where
 e111:E 111=some (.code Zi2)
 e112:E 112=some (.code Zdv)
 e114:E 114=some (.code Zlk)
 e125:E 125=some (.code Zi3)
 e126:E 126=some (.code Zll)
 e127:E 127=some (.code Zlm)
 e128:E 128=some (.code Zln)
 e129:E 129=some (.code Zlo)
 e130:E 130=some (.code Zlp)
 e137:E 137=some (.code Zlq)
 e139:E 139=some (.code Zi4)
 e140:E 140=some (.code Zi5)
 e141:E 141=some (.code Zlr)
 e142:E 142=some (.code Zls)
 e143:E 143=some (.code Zlt)
 e144:E 144=some (.code Zlu)
 e145:E 145=some (.code Zlv)
 e151:E 151=some (.code Zlw)
 e152:E 152=some (.code Zlx)
 e153:E 153=some (.code Zly)
 e154:E 154=some (.code Zlz)
 e155:E 155=some (.code Zl0)
 e169:E 169=some (.code Za1)
 e181:E 181=some (.code Zi6)
 e182:E 182=some (.code Zdx)
 e184:E 184=some (.code zuf)
 e185:E 185=some (.code Zi7)
 e186:E 186=some (.code Zi8)
 e187:E 187=some (.code Zi9)
 e192:E 192=some (.code zy2)
 e197:E 197=some (.code Za3)
 e198:E 198=some (.code Zdz)
 e199:E 199=some (.code Zd0)
 e200:E 200=some (.code Zd1)
 e201:E 201=some (.code zsd)
 e202:E 202=some (.code Zd2)
 e203:E 203=some (.code Zl1)
 e204:E 204=some (.code Zjb)
 e205:E 205=some (.code z9l)
 e206:E 206=some (.code Zjc)
 e207:E 207=some (.code zy3)
 e208:E 208=some (.code Zjd)
 e209:E 209=some (.code z01)
 e210:E 210=some (.code Zje)
 e211:E 211=some (.code zy4)
 e212:E 212=some (.code Zjf)
 e213:E 213=some (.code Zjg)
 e214:E 214=some (.code z9m)
 e216:E 216=some (.code Zd3)
 e217:E 217=some (.code z68)
 e218:E 218=some (.code Zl2)
 e219:E 219=some (.code Zjh)
 e220:E 220=some (.code zug)
 e221:E 221=some (.code Zl3)
 e222:E 222=some (.code Zl4)
 e223:E 223=some (.code Zji)
 e224:E 224=some (.code z69)
 e225:E 225=some (.code z7a)
 e226:E 226=some (.code Zjj)
 e227:E 227=some (.code Zjk)
 e228:E 228=some (.code zy5)
 e229:E 229=some (.code Zl5)
 e230:E 230=some (.code Zjl)
 e231:E 231=some (.code Zl6)
 e232:E 232=some (.code Zjm)
 e233:E 233=some (.code Zl7)
 e234:E 234=some (.code Zl8)
 e235:E 235=some (.code z29)
 e236:E 236=some (.code zse)
 e237:E 237=some (.code zis)
 e238:E 238=some (.code Zjn)
 e239:E 239=some (.code Zl9)
 e240:E 240=some (.code Zma)
 e241:E 241=some (.code z9n)
structure PE (E:Nat→Option Fn):Prop where
 e108:E 108=some (.code Zi1)
 e123:E 123=some (.code Zdw)
 e168:E 168=some (.code zoc)
 e173:E 173=some (.code Za2)
 e174:E 174=some (.code z9k)
 e183:E 183=some (.code zrd)
 e188:E 188=some (.code Zdy)
 e189:E 189=some (.code Zja)
open Go
inductive GVal where
 | mk (kind i:Int) (s:List UInt8) (l:List GVal)
namespace GVal
def kind:GVal→Int | .mk k _ _ _=>k
def i:GVal→Int | .mk _ i _ _=>i
def s:GVal→List UInt8 | .mk _ _ s _=>s
def l:GVal→List GVal | .mk _ _ _ l=>l
end GVal
mutual
def GVal.row:GVal→List D
 | .mk k i s l=>[.i .i64 k,.i .i64 i,.s s,.l 4 (zbu l)]
def zbu:List GVal→List (List D)
 | []=>[]
 | x :: r=>GVal.row x :: zbu r
end
theorem zb7:∀ (l:List GVal),zbu l=l.map GVal.row
 | []=>rfl
 | x :: r=>by simp [zbu,zb7 r]
structure GTok where
 name:List UInt8
 rex:List UInt8
 skip:Bool
structure GNt where
 name:List UInt8
 inh:List (List UInt8)
 syn:List (List UInt8)
structure GSym where
 tok:Bool
 at_:Int
inductive Exp where
 | mk (op:Int) (v:GVal) (occ attr:Int) (args:List Exp)
namespace Exp
def op:Exp→Int | .mk o _ _ _ _=>o
def v:Exp→GVal | .mk _ v _ _ _=>v
def occ:Exp→Int | .mk _ _ o _ _=>o
def attr:Exp→Int | .mk _ _ _ a _=>a
def args:Exp→List Exp | .mk _ _ _ _ as=>as
end Exp
structure GRule where
 occ:Int
 attr:Int
 e:Exp
structure GProd where
 left:Int
 right:List GSym
 rules:List GRule
structure Gram where
 toks:List GTok
 nts:List GNt
 prods:List GProd
def za2 (s:List UInt8):List D:=[.s s]
def GTok.row (t:GTok):List D:=[.s t.name,.s t.rex,.b t.skip]
def GNt.row (n:GNt):List D:=[.s n.name,.l 1 (n.inh.map za2),.l 1 (n.syn.map za2)]
def GSym.row (s:GSym):List D:=[.b s.tok,.i .i64 s.at_]
mutual
def Exp.row:Exp→List D
 | .mk o v occ attr args=>[.i .i64 o,.i .i64 v.kind,.i .i64 v.i,.s v.s,.l 4 (zbu v.l),.i .i64 occ,.i .i64 attr,.l 8 (zq6 args)]
def zq6:List Exp→List (List D)
 | []=>[]
 | x :: r=>Exp.row x :: zq6 r
end
theorem zpw:∀ (l:List Exp),zq6 l=l.map Exp.row
 | []=>rfl
 | x :: r=>by simp [zq6,zpw r]
theorem zfc (e:Exp):e.row=[.i .i64 e.op,.i .i64 e.v.kind,.i .i64 e.v.i,.s e.v.s,.l 4 (zbu e.v.l),.i .i64 e.occ,.i .i64 e.attr,.l 8 (e.args.map Exp.row)]:=by
 cases e; simp only [Exp.row,zpw]; rfl
def GRule.row (r:GRule):List D:=[.i .i64 r.occ,.i .i64 r.attr,.i .i64 r.e.op,.i .i64 r.e.v.kind,.i .i64 r.e.v.i,.s r.e.v.s,.l 4 (zbu r.e.v.l),.i .i64 r.e.occ,.i .i64 r.e.attr,.l 8 (r.e.args.map Exp.row)]
def GProd.row (p:GProd):List D:=[.i .i64 p.left,.l 2 (p.right.map GSym.row),.l 10 (p.rules.map GRule.row)]
def Gram.row (g:Gram):List D:=[.l 3 (g.toks.map GTok.row),.l 3 (g.nts.map GNt.row),.l 3 (g.prods.map GProd.row)]
def zaz (x:Int × Int):List D:=[.i .i64 x.1,.i .i64 x.2]
abbrev Gram.cells (g:Gram):List D:=[.l 3 (g.toks.map GTok.row),.l 3 (g.nts.map GNt.row),.l 3 (g.prods.map GProd.row)]
abbrev GProd.cells (p:GProd):List D:=[.i .i64 p.left,.l 2 (p.right.map GSym.row),.l 10 (p.rules.map GRule.row)]
abbrev Gram.arg (g:Gram):V:=.agg [.d (.l 3 (g.toks.map GTok.row)),.d (.l 3 (g.nts.map GNt.row)),.d (.l 3 (g.prods.map GProd.row))]
abbrev GProd.arg (p:GProd):V:=.agg [.d (.i .i64 p.left),.d (.l 2 (p.right.map GSym.row)),.d (.l 10 (p.rules.map GRule.row))]
abbrev GSym.arg (s:GSym):V:=.agg [.d (.b s.tok),.d (.i .i64 s.at_)]
abbrev GNt.arg (n:GNt):V:=.agg [.d (.s n.name),.d (.l 1 (n.inh.map za2)),.d (.l 1 (n.syn.map za2))]
abbrev Exp.arg (e:Exp):V:=.agg [.d (.i .i64 e.op),.d (.i .i64 e.v.kind),.d (.i .i64 e.v.i),.d (.s e.v.s),.d (.l 4 (zbu e.v.l)),.d (.i .i64 e.occ),.d (.i .i64 e.attr),.d (.l 8 (e.args.map Exp.row))]
abbrev GVal.arg (v:GVal):V:=.agg [.d (.i .i64 v.kind),.d (.i .i64 v.i),.d (.s v.s),.d (.l 4 (zbu v.l))]
abbrev GRule.arg (r:GRule):V:=.agg [.d (.i .i64 r.occ),.d (.i .i64 r.attr),.d (.i .i64 r.e.op),.d (.i .i64 r.e.v.kind),.d (.i .i64 r.e.v.i),.d (.s r.e.v.s),.d (.l 4 (zbu r.e.v.l)),.d (.i .i64 r.e.occ),.d (.i .i64 r.e.attr),.d (.l 8 (r.e.args.map Exp.row))]
abbrev zuy (a b:Int):V:=.agg [.d (.i .i64 a),.d (.i .i64 b)]
theorem zw4 (e:Exp):zm2 true e.row=e.arg:=by rw [zfc]; rfl
theorem zkd {α:Type}{l:List α}{i:Int}(h0:0 ≤ i)(h1:i < l.length):∃ x,l[i.toNat]?=some x∧x ∈ l:=⟨l[i.toNat]'(by omega),Qd (by omega),List.getElem_mem _⟩
structure GProd.Ok (p:GProd):Prop where
 right:p.right.length ≤ 1000
 rules:p.rules.length ≤ 1000
structure Gram.Ok (g:Gram):Prop where
 toks:g.toks.length ≤ 1000
 nts:g.nts.length ≤ 1000
 prods:g.prods.length ≤ 1000
 nt:∀ n ∈ g.nts,n.inh.length ≤ 1000∧n.syn.length ≤ 1000
 prod:∀ p ∈ g.prods,p.Ok
open Go
variable {E:Nat→Option Fn}
def zy7:GNt:=⟨[],[],[]⟩
def ntA (g:Gram)(i:Int):GNt:=if 0 ≤ i then (g.nts[i.toNat]?).getD zy7 else zy7
theorem ztb {g:Gram}(h:g.Ok)(i:Int):(ntA g i).inh.length ≤ 1000∧(ntA g i).syn.length ≤ 1000:=by
 unfold ntA
 split
 ·cases hx:g.nts[i.toNat]? with
  | none=>simp [zy7]
  | some n=>exact h.nt n (List.mem_of_getElem? hx)
 ·simp [zy7]
theorem Ze0 (A:AE E)(g:Gram)(i:Int):lcall E 197 [g.arg,.d (.i .i64 i)] []=some ((ntA g i).arg,[]):=by
 refine zaq A.e197 ?_
 by_cases h0:0 ≤ i
 ·by_cases h1:i < g.nts.length
  ·obtain ⟨x,hx,_⟩:=zkd h0 h1
   simp only [zab,simprocAttr,zaa,List.range'_one,Za3,eq_true h0,eq_true h1,hx,ntA,Option.getD_some,Qf,List.getElem?_map,Option.map_some,GNt.row,ofDs,Qb,Qc,ge_iff_le]
  ·have hx:g.nts[i.toNat]?=none:=Qe (by omega)
   simp only [zab,simprocAttr,zaa,List.range'_one,Za3,eq_true h0,h1,hx,ntA,Option.getD_none,zy7,Qf,Qc,ge_iff_le]; rfl
 ·simp only [zab,simprocAttr,zaa,List.range'_one,Za3,h0,ntA,zy7,Qc,ge_iff_le]; rfl
def za7 (g:Gram)(i:Int):Int:=(ntA g i).inh.length + (ntA g i).syn.length
def zdf (g:Gram)(i a:Int):Bool:=decide (0 ≤ a) && decide (a < (ntA g i).inh.length)
theorem zw5 (A:AE E){g:Gram}(hg:g.Ok)(i:Int):lcall E 181 [g.arg,.d (.i .i64 i)] []=some (.d (.i .i64 (za7 g i)),[]):=by
 have c1:=Ze0 A g i
 have hb:=ztb hg i
 have w:IntKind.i64.wrap (((ntA g i).inh.length:Int) + ((ntA g i).syn.length:Int))=za7 g i:=by unfold za7; exact zda (by omega) (by omega)
 refine zaq A.e181 ?_
 simp only [zab,simprocAttr,zaa,List.range'_one,Zi6,c1,w,Qf]
 rfl
theorem z6f (A:AE E)(g:Gram)(i a:Int):lcall E 182 [g.arg,.d (.i .i64 i),.d (.i .i64 a)] []=some (.d (.b (zdf g i a)),[]):=by
 have c1:=Ze0 A g i
 refine zaq A.e182 ?_
 by_cases h0:0 ≤ a
 ·simp only [zab,simprocAttr,zaa,List.range'_one,Zdx,eq_true h0,c1,zdf,Qf,decide_true,ge_iff_le]
 ·simp only [zab,simprocAttr,zaa,List.range'_one,Zdx,h0,zdf,decide_false,ge_iff_le]
def zcn (p:GProd)(i:Int):Int × Bool:=if i=0 then (p.left,true) else if i < 0 ∨ i > p.right.length then (0,false) else match p.right[(i - 1).toNat]? with
 | some s=>if s.tok then (0,false) else (s.at_,true)
 | none=>(0,false)
theorem z2e (A:AE E){p:GProd}(hp:p.Ok)(i:Int):lcall E 225 [p.arg,.d (.i .i64 i)] []=some (.tup [.d (.i .i64 (zcn p i).1),.d (.b (zcn p i).2)],[]):=by
 have hr:=hp.right
 refine zaq A.e225 ?_
 by_cases h0:i=0
 ·simp only [zab,simprocAttr,zaa,List.range'_one,z7a,eq_true h0,zcn]
 ·by_cases h1:i < 0
  ·simp only [zab,simprocAttr,zaa,List.range'_one,z7a,h0,eq_true h1,zcn,true_or]
  ·by_cases h2:i > p.right.length
   ·simp only [zab,simprocAttr,zaa,List.range'_one,z7a,h0,h1,eq_true h2,zcn,or_true,Qf]
   ·have w:IntKind.i64.wrap (i - 1)=i - 1:=zda (by omega) (by omega)
    have h3:0 ≤ i - 1:=by omega
    obtain ⟨s,hs,_⟩:=zkd (l:=p.right) h3 (by omega)
    cases ht:s.tok
    ·simp only [zab,simprocAttr,zaa,List.range'_one,z7a,h0,h1,h2,zcn,or_self,Qf,w,eq_true h3,hs,ht,GSym.row,List.getElem?_map,Option.map_some,ofDs,Qb,Qc]
    ·simp only [zab,simprocAttr,zaa,List.range'_one,z7a,h0,h1,h2,zcn,or_self,Qf,w,eq_true h3,hs,ht,GSym.row,List.getElem?_map,Option.map_some,ofDs,Qb,Qc]
def inF (g:Gram)(p:GProd)(x:Int × Int):Bool:=(zcn p x.1).2 && (decide (0 ≤ x.2) && (decide (x.2 < za7 g (zcn p x.1).1) && decide (zdf g (zcn p x.1).1 x.2=decide (x.1=0))))
theorem Ze1 (A:AE E){g:Gram}(hg:g.Ok){p:GProd}(hp:p.Ok)(x:Int × Int):lcall E 214 [g.arg,p.arg,zuy x.1 x.2] []=some (.d (.b (inF g p x)),[]):=by
 have c1:=z2e A hp x.1
 have c2:=zw5 A hg (zcn p x.1).1
 have c3:=z6f A g (zcn p x.1).1 x.2
 refine zaq A.e214 ?_
 unfold inF
 generalize zcn p x.1=o at *
 obtain ⟨n,ok⟩:=o
 simp only at c1 c2 c3 ⊢
 cases ok
 ·simp only [zab,simprocAttr,zaa,List.range'_one,z9m,c1]
  rfl
 ·by_cases h0:0 ≤ x.2
  ·by_cases h1:x.2 < za7 g n
   ·simp only [zab,simprocAttr,zaa,List.range'_one,z9m,c1,c2,c3,eq_true h0,eq_true h1,ge_iff_le,decide_true]
    rfl
   ·simp only [zab,simprocAttr,zaa,List.range'_one,z9m,c1,c2,eq_true h0,h1,ge_iff_le,decide_false,decide_true]
    rfl
  ·simp only [zab,simprocAttr,zaa,List.range'_one,z9m,c1,h0,ge_iff_le,decide_false]
   rfl
theorem Ze2 (A:AE E){g:Gram}(hg:g.Ok){p:GProd}(hp:p.Ok)(x:Int × Int):lcall E 213 [zuy x.1 x.2,.d (.q g.cells 0),.d (.q p.cells 0)] []=some (.d (.b (inF g p x)),[]):=by
 have c1:=Ze1 A hg hp x
 refine zaq A.e213 ?_
 simp only [zab,simprocAttr,zaa,List.range'_one,Zjg,c1,ofDs,Qb,Qc]
open Go
def za3 (op:Int):Int:=if op=0 then 0 else if op=1 then 0 else if op=2 then 0 else if op=3 then 0 else if op=21 then 0 else if op=22 then 0 else if op=11 then 1 else if op=15 then 1 else
 if op=12 then 3 else if op=16 then 3 else if op=14 then -1 else if op > 3∧op < 21 then 2 else -2
theorem z6g (A:AE E)(op:Int):lcall E 236 [.d (.i .i64 op)] []=some (.d (.i .i64 (za3 op)),[]):=by
 refine zaq A.e236 ?_
 by_cases h0:op=0
 ·subst h0; simp only [zab,simprocAttr,zaa,List.range'_one,zse,za3]
 by_cases h1:op=1
 ·subst h1; simp only [zab,simprocAttr,zaa,List.range'_one,zse,za3]
 by_cases h2:op=2
 ·subst h2; simp only [zab,simprocAttr,zaa,List.range'_one,zse,za3]
 by_cases h3:op=3
 ·subst h3; simp only [zab,simprocAttr,zaa,List.range'_one,zse,za3]
 by_cases h21:op=21
 ·subst h21; simp only [zab,simprocAttr,zaa,List.range'_one,zse,za3]
 by_cases h22:op=22
 ·subst h22; simp only [zab,simprocAttr,zaa,List.range'_one,zse,za3]
 by_cases h11:op=11
 ·subst h11; simp only [zab,simprocAttr,zaa,List.range'_one,zse,za3]
 by_cases h15:op=15
 ·subst h15; simp only [zab,simprocAttr,zaa,List.range'_one,zse,za3]
 by_cases h12:op=12
 ·subst h12; simp only [zab,simprocAttr,zaa,List.range'_one,zse,za3]
 by_cases h16:op=16
 ·subst h16; simp only [zab,simprocAttr,zaa,List.range'_one,zse,za3]
 by_cases h14:op=14
 ·subst h14; simp only [zab,simprocAttr,zaa,List.range'_one,zse,za3]
 by_cases g1:op > 3
 ·by_cases g2:op < 21
  ·simp only [zab,simprocAttr,zaa,List.range'_one,zse,za3,h0,h1,h2,h3,h21,h22,h11,h15,h12,h16,h14,eq_true g1,eq_true g2,and_self]
  ·simp only [zab,simprocAttr,zaa,List.range'_one,zse,za3,h0,h1,h2,h3,h21,h22,h11,h15,h12,h16,h14,eq_true g1,g2,and_false]
 ·simp only [zab,simprocAttr,zaa,List.range'_one,zse,za3,h0,h1,h2,h3,h21,h22,h11,h15,h12,h16,h14,g1,false_and]
def zfy (v:GVal):Bool:=decide (v.kind=0) && (decide (v.i=0) && (decide (v.s=[]) && decide ((v.l.length:Int)=0)))
theorem Zad (A:AE E)(v:GVal):lcall E 241 [v.arg] []=some (.d (.b (zfy v)),[]):=by
 refine zaq A.e241 ?_
 unfold zfy
 by_cases h0:v.kind=0
 ·by_cases h1:v.i=0
  ·by_cases h2:v.s=[]
   ·simp only [zab,simprocAttr,zaa,List.range'_one,z9n,eq_true h0,eq_true h1,h2,decide_true,zb7,Qf]
   ·simp only [zab,simprocAttr,zaa,List.range'_one,z9n,eq_true h0,eq_true h1,h2,decide_true,decide_false]
  ·simp only [zab,simprocAttr,zaa,List.range'_one,z9n,eq_true h0,h1,decide_true,decide_false]
 ·simp only [zab,simprocAttr,zaa,List.range'_one,z9n,h0,decide_false]
def zer (mv:GVal→Bool)(op:Int)(v:GVal)(occ attr:Int):Bool :=
 if op=0 then decide (v.kind ≠ 7) && (mv v && (decide (occ=0) && decide (attr=0))) else
  zfy v && (decide (0 ≤ occ) && (decide (occ ≤ if op=1 then 5 else if op=2 then 5 else if op=3 then 5 else 0) && (decide (0 ≤ attr) && decide (attr ≤ if op=1 then 7 else 0))))
theorem z2f (A:AE E){mv:GVal→Bool}(e:Exp)(hv:e.op=0→lcall E 111 [e.v.arg] []=some (.d (.b (mv e.v)),[])):lcall E 237 [e.arg] []=some (.d (.b (zer mv e.op e.v e.occ e.attr)),[]):=by
 have c1:=Zad A e.v
 refine zaq A.e237 ?_
 unfold zer
 by_cases h0:e.op=0
 ·have c2:=hv h0
  rw [if_pos h0]
  by_cases h1:e.v.kind=7
  ·have h1':(e.v.kind != 7)=false:=by simp [h1]
   simp only [zab,simprocAttr,zaa,List.range'_one,zis,eq_true h0,h1',h1,ne_eq,not_true_eq_false,decide_false]
  ·have h1':(e.v.kind != 7)=true:=by simp [h1]
   cases h2:mv e.v
   ·rw [h2] at c2
    simp only [zab,simprocAttr,zaa,List.range'_one,zis,eq_true h0,h1',h1,c2,ne_eq,not_false_eq_true,decide_true]
   ·rw [h2] at c2
    by_cases h3:e.occ=0
    ·simp only [zab,simprocAttr,zaa,List.range'_one,zis,eq_true h0,h1',h1,c2,eq_true h3,ne_eq,not_false_eq_true,decide_true]
    ·simp only [zab,simprocAttr,zaa,List.range'_one,zis,eq_true h0,h1',h1,c2,h3,ne_eq,not_false_eq_true,decide_true,decide_false]
 ·rw [if_neg h0]
  cases hz:zfy e.v
  ·rw [hz] at c1
   by_cases k1:e.op=1
   ·simp only [zab,simprocAttr,zaa,List.range'_one,zis,h0,c1,eq_true k1]
   by_cases k2:e.op=2
   ·simp only [zab,simprocAttr,zaa,List.range'_one,zis,h0,c1,k1,eq_true k2]
   by_cases k3:e.op=3
   ·simp only [zab,simprocAttr,zaa,List.range'_one,zis,h0,c1,k1,k2,eq_true k3]
   simp only [zab,simprocAttr,zaa,List.range'_one,zis,h0,c1,k1,k2,k3]
  ·rw [hz] at c1
   by_cases o1:0 ≤ e.occ
   ·by_cases a1:0 ≤ e.attr
    ·by_cases k1:e.op=1
     ·by_cases o2:e.occ ≤ 5
      ·simp only [zab,simprocAttr,zaa,List.range'_one,zis,h0,c1,eq_true k1,eq_true o1,eq_true a1,eq_true o2,ge_iff_le,decide_true]
      ·simp only [zab,simprocAttr,zaa,List.range'_one,zis,h0,c1,eq_true k1,eq_true o1,eq_true a1,o2,ge_iff_le,decide_true,decide_false]
     ·by_cases k2:e.op=2
      ·by_cases o2:e.occ ≤ 5
       ·simp only [zab,simprocAttr,zaa,List.range'_one,zis,h0,c1,k1,eq_true k2,eq_true o1,eq_true a1,eq_true o2,ge_iff_le,decide_true]
       ·simp only [zab,simprocAttr,zaa,List.range'_one,zis,h0,c1,k1,eq_true k2,eq_true o1,eq_true a1,o2,ge_iff_le,decide_true,decide_false]
      ·by_cases k3:e.op=3
       ·by_cases o2:e.occ ≤ 5
        ·simp only [zab,simprocAttr,zaa,List.range'_one,zis,h0,c1,k1,k2,eq_true k3,eq_true o1,eq_true a1,eq_true o2,ge_iff_le,decide_true]
        ·simp only [zab,simprocAttr,zaa,List.range'_one,zis,h0,c1,k1,k2,eq_true k3,eq_true o1,eq_true a1,o2,ge_iff_le,decide_true,decide_false]
       ·by_cases o2:e.occ ≤ 0
        ·simp only [zab,simprocAttr,zaa,List.range'_one,zis,h0,c1,k1,k2,k3,eq_true o1,eq_true a1,eq_true o2,ge_iff_le,decide_true]
        ·simp only [zab,simprocAttr,zaa,List.range'_one,zis,h0,c1,k1,k2,k3,eq_true o1,eq_true a1,o2,ge_iff_le,decide_true,decide_false]
    ·by_cases k1:e.op=1
     ·by_cases o2:e.occ ≤ 5
      ·simp only [zab,simprocAttr,zaa,List.range'_one,zis,h0,c1,eq_true k1,eq_true o1,a1,eq_true o2,ge_iff_le,decide_true,decide_false]
      ·simp only [zab,simprocAttr,zaa,List.range'_one,zis,h0,c1,eq_true k1,eq_true o1,a1,o2,ge_iff_le,decide_true,decide_false]
     ·by_cases k2:e.op=2
      ·by_cases o2:e.occ ≤ 5
       ·simp only [zab,simprocAttr,zaa,List.range'_one,zis,h0,c1,k1,eq_true k2,eq_true o1,a1,eq_true o2,ge_iff_le,decide_true,decide_false]
       ·simp only [zab,simprocAttr,zaa,List.range'_one,zis,h0,c1,k1,eq_true k2,eq_true o1,a1,o2,ge_iff_le,decide_true,decide_false]
      ·by_cases k3:e.op=3
       ·by_cases o2:e.occ ≤ 5
        ·simp only [zab,simprocAttr,zaa,List.range'_one,zis,h0,c1,k1,k2,eq_true k3,eq_true o1,a1,eq_true o2,ge_iff_le,decide_true,decide_false]
        ·simp only [zab,simprocAttr,zaa,List.range'_one,zis,h0,c1,k1,k2,eq_true k3,eq_true o1,a1,o2,ge_iff_le,decide_true,decide_false]
       ·by_cases o2:e.occ ≤ 0
        ·simp only [zab,simprocAttr,zaa,List.range'_one,zis,h0,c1,k1,k2,k3,eq_true o1,a1,eq_true o2,ge_iff_le,decide_true,decide_false]
        ·simp only [zab,simprocAttr,zaa,List.range'_one,zis,h0,c1,k1,k2,k3,eq_true o1,a1,o2,ge_iff_le,decide_true,decide_false]
   ·by_cases k1:e.op=1
    ·simp only [zab,simprocAttr,zaa,List.range'_one,zis,h0,c1,eq_true k1,o1,ge_iff_le,decide_false]
    ·by_cases k2:e.op=2
     ·simp only [zab,simprocAttr,zaa,List.range'_one,zis,h0,c1,k1,eq_true k2,o1,ge_iff_le,decide_false]
     ·by_cases k3:e.op=3
      ·simp only [zab,simprocAttr,zaa,List.range'_one,zis,h0,c1,k1,k2,eq_true k3,o1,ge_iff_le,decide_false]
      ·simp only [zab,simprocAttr,zaa,List.range'_one,zis,h0,c1,k1,k2,k3,o1,ge_iff_le,decide_false]
mutual
def zk3 (mv:GVal→Bool):Exp→Int→Bool
 | .mk op v occ attr args,deep=>decide (1 ≤ deep) && (!decide (za3 op = -2) && ((decide (za3 op < 0) || decide ((args.length:Int)=za3 op)) && (decide ((args.length:Int) ≤ 4) && (zer mv op v occ attr && zev mv args (deep - 1)))))
def zev (mv:GVal→Bool):List Exp→Int→Bool
 | [],_=>true
 | x :: r,d=>zk3 mv x d && zev mv r d
end
theorem zk4 (mv:GVal→Bool)(d:Int):∀ (l:List Exp),(!l.any fun x=>!zk3 mv x d)=zev mv l d
 | []=>rfl
 | x :: r=>by
  have:=zk4 mv d r
  simp only [List.any_cons,zev,← this,Bool.not_or,Bool.not_not]
theorem zuz (mv:GVal→Bool)(e:Exp)(deep:Int):zk3 mv e deep=(decide (1 ≤ deep) && (!decide (za3 e.op = -2) && ((decide (za3 e.op < 0) || decide ((e.args.length:Int)=za3 e.op)) && (decide ((e.args.length:Int) ≤ 4) && (zer mv e.op e.v e.occ e.attr && zev mv e.args (deep - 1)))))):=by
 cases e; simp only [zk3]; rfl
inductive AllV (P:GVal→Prop):Exp→Prop where
 | mk {e:Exp} (hv:e.op=0→P e.v) (ha:∀ x ∈ e.args,AllV P x) (hl:e.args.length ≤ 100000):AllV P e
theorem zlp {x e:Exp}(h:x ∈ e.args):sizeOf x < sizeOf e:=by
 cases e with
 | mk o v oc at_ args =>
  have:=List.sizeOf_lt_of_mem (show x ∈ args from h)
  simp only [Exp.mk.sizeOf_spec]
  omega
theorem Ze3 (A:AE E){mv:GVal→Bool}{P:GVal→Prop}(hv:∀ v,P v→lcall E 111 [v.arg] []=some (.d (.b (mv v)),[])):∀ (n:Nat) (e:Exp) (deep:Int),sizeOf e < n→AllV P e→0 ≤ deep→deep ≤ 1000000 →
  lcall E 228 [e.arg,.d (.i .i64 deep)] []=some (.d (.b (zk3 mv e deep)),[]):=by
 intro n
 induction n with
 | zero=>intro e deep hs; omega
 | succ n ih =>
  intro e deep hs ha hd1 hd2
  cases ha with
  | mk hve hae hl =>
  have c1:=z6g A e.op
  have c2:=z2f A e (fun h=>hv e.v (hve h))
  have wd:IntKind.i64.wrap (deep - 1)=deep - 1:=zda (by omega) (by omega)
  refine zaq A.e228 ?_
  rw [zuz]
  by_cases d:deep < 1
  ·have d':¬ 1 ≤ deep:=by omega
   simp only [zab,simprocAttr,zaa,List.range'_one,zy5,c1,eq_true d,d',decide_false]
  have d':1 ≤ deep:=by omega
  have hp:∀ x ∈ e.args,lcall E 238 (zm2 true x.row :: ofDs [.q [.i .i64 deep] 0]) []=some (.d (.b (!zk3 mv x (deep - 1))),[]):=fun x hx=>by
   rw [zw4]
   have c:=ih x (deep - 1) (by have:=zlp hx; omega) (hae x hx) (by omega) (by omega)
   show lcall E 238 [x.arg,.d (.q [.i .i64 deep] 0)] []=_
   refine zaq A.e238 ?_
   simp only [zab,simprocAttr,zaa,List.range'_one,Zjn,wd,c]
  have c3:=zg5 (E:=E) (key:=229) (ki:=239) (sz:=8) (ag:=true) A.e229 A.e239 (fun h=>by cases h) (by omega) (fun x _=>by rw [zfc]; rfl) hp
  by_cases t2:za3 e.op = -2
  ·simp only [zab,simprocAttr,zaa,List.range'_one,zy5,c1,d,eq_true d',eq_true t2,decide_true,decide_false,ne_eq,not_true_eq_false]
  by_cases t0:za3 e.op ≥ 0
  ·have t0':¬ za3 e.op < 0:=by omega
   by_cases tl:(e.args.length:Int)=za3 e.op
   ·have tl':((e.args.length:Int) != za3 e.op)=false:=by simp [tl]
    by_cases l4:(e.args.length:Int) > 4
    ·have l4':¬ (e.args.length:Int) ≤ 4:=by omega
     simp only [zab,simprocAttr,zaa,List.range'_one,zy5,c1,d,eq_true d',t2,eq_true t0,t0',tl',eq_true tl,eq_true l4,l4',decide_true,decide_false,ne_eq,not_false_eq_true,Qf]
    ·have l4':(e.args.length:Int) ≤ 4:=by omega
     cases hf:zer mv e.op e.v e.occ e.attr
     ·rw [hf] at c2
      simp only [zab,simprocAttr,zaa,List.range'_one,zy5,c1,c2,d,eq_true d',t2,eq_true t0,t0',tl',eq_true tl,l4,eq_true l4',decide_true,decide_false,ne_eq,not_false_eq_true,Qf]
     ·rw [hf] at c2
      simp only [zab,simprocAttr,zaa,List.range'_one,zy5,c1,c2,c3,d,eq_true d',t2,eq_true t0,t0',tl',eq_true tl,l4,eq_true l4',decide_true,decide_false,ne_eq,not_false_eq_true,Qf,zk4]
   ·have tl':((e.args.length:Int) != za3 e.op)=true:=by simp [tl]
    simp only [zab,simprocAttr,zaa,List.range'_one,zy5,c1,d,eq_true d',t2,eq_true t0,t0',tl',tl,decide_true,decide_false,ne_eq,not_false_eq_true,Qf]
  ·have t0':za3 e.op < 0:=by omega
   by_cases l4:(e.args.length:Int) > 4
   ·have l4':¬ (e.args.length:Int) ≤ 4:=by omega
    simp only [zab,simprocAttr,zaa,List.range'_one,zy5,c1,d,eq_true d',t2,t0,eq_true t0',eq_true l4,l4',decide_true,decide_false,ne_eq,not_false_eq_true,Qf]
   ·have l4':(e.args.length:Int) ≤ 4:=by omega
    cases hf:zer mv e.op e.v e.occ e.attr
    ·rw [hf] at c2
     simp only [zab,simprocAttr,zaa,List.range'_one,zy5,c1,c2,d,eq_true d',t2,t0,eq_true t0',l4,eq_true l4',decide_true,decide_false,ne_eq,not_false_eq_true,Qf]
    ·rw [hf] at c2
     simp only [zab,simprocAttr,zaa,List.range'_one,zy5,c1,c2,c3,d,eq_true d',t2,t0,eq_true t0',l4,eq_true l4',decide_true,decide_false,ne_eq,not_false_eq_true,Qf,zk4]
theorem Ze4 (A:AE E){mv:GVal→Bool}{P:GVal→Prop}(hv:∀ v,P v→lcall E 111 [v.arg] []=some (.d (.b (mv v)),[])){e:Exp}(h:AllV P e):lcall E 210 [e.arg] []=some (.d (.b (zk3 mv e 12)),[]):=by
 have c1:=Ze3 A hv (sizeOf e + 1) e 12 (by omega) h (by omega) (by omega)
 refine zaq A.e210 ?_
 simp only [zab,simprocAttr,zaa,List.range'_one,Zje,c1]
def zbw (p:GProd)(op occ:Int):Bool:=(decide (op=2) || decide (op=3)) && (decide (occ < 1) || (decide (occ > p.right.length) || match p.right[(occ - 1).toNat]? with | some s=>!s.tok | none=>true))
mutual
def zew (p:GProd):Exp→Bool
 | .mk op v occ attr args=>!zbw p op occ && zdk p args
def zdk (p:GProd):List Exp→Bool
 | []=>true
 | x :: r=>zew p x && zdk p r
end
theorem zfp (p:GProd):∀ (l:List Exp),(!l.any fun x=>!zew p x)=zdk p l
 | []=>rfl
 | x :: r=>by
  have:=zfp p r
  simp only [List.any_cons,zdk,← this,Bool.not_or,Bool.not_not]
theorem ztc (p:GProd)(e:Exp):zew p e=(!zbw p e.op e.occ && zdk p e.args):=by
 cases e; simp only [zew]; rfl
theorem z6h (A:AE E){p:GProd}(hp:p.Ok){P:GVal→Prop}:∀ (n:Nat) (e:Exp),sizeOf e < n→AllV P e→lcall E 211 [p.arg,e.arg] []=some (.d (.b (zew p e)),[]):=by
 have hr:=hp.right
 intro n
 induction n with
 | zero=>intro e hs; omega
 | succ n ih =>
  intro e hs ha
  cases ha with
  | mk hve hae hl =>
  have hp:∀ x ∈ e.args,lcall E 230 (zm2 true x.row :: ofDs [.q p.cells 0]) []=some (.d (.b (!zew p x)),[]):=fun x hx=>by
   rw [zw4]
   have c:=ih x (by have:=zlp hx; omega) (hae x hx)
   show lcall E 230 [x.arg,.d (.q p.cells 0)] []=_
   refine zaq A.e230 ?_
   simp only [zab,simprocAttr,zaa,List.range'_one,Zjl,c,ofDs,Qb,Qc]
  have c3:=zg5 (E:=E) (key:=229) (ki:=239) (sz:=8) (ag:=true) A.e229 A.e239 (fun h=>by cases h) (by omega) (fun x _=>by rw [zfc]; rfl) hp
  refine zaq A.e211 ?_
  rw [ztc]
  by_cases t:e.op=2 ∨ e.op=3
  ·have hop:(e.op=2) ∨ (¬ e.op=2∧e.op=3):=by omega
   by_cases o1:e.occ < 1
   ·have hb:zbw p e.op e.occ=true:=by simp [zbw,o1]; omega
    rcases hop with h2 | ⟨h2,h3⟩
    ·simp only [zab,simprocAttr,zaa,List.range'_one,zy4,eq_true h2,eq_true o1,hb]
    ·simp only [zab,simprocAttr,zaa,List.range'_one,zy4,h2,eq_true h3,eq_true o1,hb]
   ·by_cases o2:e.occ > p.right.length
    ·have hb:zbw p e.op e.occ=true:=by simp [zbw,o2]; omega
     rcases hop with h2 | ⟨h2,h3⟩
     ·simp only [zab,simprocAttr,zaa,List.range'_one,zy4,eq_true h2,o1,eq_true o2,hb,Qf]
     ·simp only [zab,simprocAttr,zaa,List.range'_one,zy4,h2,eq_true h3,o1,eq_true o2,hb,Qf]
    ·have w:IntKind.i64.wrap (e.occ - 1)=e.occ - 1:=zda (by omega) (by omega)
     have h3:0 ≤ e.occ - 1:=by omega
     obtain ⟨s,hs,_⟩:=zkd (l:=p.right) h3 (by omega)
     cases ht:s.tok
     ·have hb:zbw p e.op e.occ=true:=by unfold zbw; rw [hs]; simp [ht]; exact t
      rcases hop with h2 | ⟨h2,h4⟩
      ·simp only [zab,simprocAttr,zaa,List.range'_one,zy4,eq_true h2,o1,o2,hb,Qf,w,eq_true h3,hs,ht,GSym.row,List.getElem?_map,Option.map_some,ofDs,Qb,Qc]
      ·simp only [zab,simprocAttr,zaa,List.range'_one,zy4,h2,eq_true h4,o1,o2,hb,Qf,w,eq_true h3,hs,ht,GSym.row,List.getElem?_map,Option.map_some,ofDs,Qb,Qc]
     ·have hb:zbw p e.op e.occ=false:=by unfold zbw; rw [hs]; simp [ht]; omega
      rcases hop with h2 | ⟨h2,h4⟩
      ·simp only [zab,simprocAttr,zaa,List.range'_one,zy4,eq_true h2,o1,o2,hb,Qf,w,eq_true h3,hs,ht,GSym.row,List.getElem?_map,Option.map_some,ofDs,Qb,Qc,c3,zfp]
      ·simp only [zab,simprocAttr,zaa,List.range'_one,zy4,h2,eq_true h4,o1,o2,hb,Qf,w,eq_true h3,hs,ht,GSym.row,List.getElem?_map,Option.map_some,ofDs,Qb,Qc,c3,zfp]
  ·have h2:¬ e.op=2:=by omega
   have h3:¬ e.op=3:=by omega
   have hb:zbw p e.op e.occ=false:=by simp [zbw,h2,h3]
   simp only [zab,simprocAttr,zaa,List.range'_one,zy4,h2,h3,hb,c3,zfp]
mutual
def zbo:Exp→List (Int × Int)
 | .mk op v occ attr args=>(if op=1 then [(occ,attr)] else [])++za8 args
def za8:List Exp→List (Int × Int)
 | []=>[]
 | x :: r=>zbo x++za8 r
end
theorem zke (e:Exp):zbo e=(if e.op=1 then [(e.occ,e.attr)] else [])++za8 e.args:=by
 cases e; simp only [zbo]; rfl
theorem zq7 {x:Exp}:∀ {l:List Exp},x ∈ l→(zbo x).length ≤ (za8 l).length
 | y :: r,h=>by
  simp only [za8,Qg]
  rcases List.mem_cons.1 h with rfl | h
  ·omega
  ·have:=zq7 h; omega
theorem zq8 (a b:List (Int × Int)):a.map zaz++b.map zaz=(a++b).map zaz:=by simp
def zhs:CCode:=match zy2.body with
 | .seq _ (.seq _ (.seq (.seq _ (.block _ (.loop _ c))) _))=>c
 | _=>.skip
set_option maxHeartbeats 1000000 in
theorem zyo {l:List Exp}{x1 x2 x3 x4 x5 x6 x7 x8:D}(hl:l.length ≤ 100000)(hc:∀ x ∈ l,lcall E 192 [x.arg] []=some (.d (.l 2 ((zbo x).map zaz)),[])){Q:Ex→St→Prop}:∀ (m i:Nat) (out:List (Int × Int)),i + m=l.length→out.length + (za8 (l.drop i)).length ≤ 1000000 →
  (∀ tm,za1 tm 2 = .own 1 0 2 ((out++za8 (l.drop i)).map zaz)→Q (.exit 0) ⟨tm,[some (.box [.d x1,.d x2,.d x3,.d x4,.d x5,.d x6,.d x7,.d x8]),some (.tok 0 2)]⟩) →
  LX E zhs ⟨[2,17,18,19],[2],[],[],[],true⟩ 2 ⟨[(2,.own 1 0 2 (out.map zaz)),(17,.d (.l 8 (l.map Exp.row))),(18,.d (.i .i64 l.length)),(19,.d (.i .i64 i))],[some (.box [.d x1,.d x2,.d x3,.d x4,.d x5,.d x6,.d x7,.d x8]),some (.tok 0 2)]⟩ Q:=by
 intro m
 induction m with
 | zero =>
  intro i out hi ho hQ
  have hn:¬ ((i:Int) < l.length):=by omega
  rw [List.drop_eq_nil_of_le (by omega)] at hQ
  simp only [za8,List.append_nil] at hQ
  refine zah ?_
  simp only [zab,simprocAttr,zaa,List.range'_one,zhs,zy2,hn]
  exact hQ _ rfl
 | succ m ih =>
  intro i out hi ho hQ
  have hy:(i:Int) < l.length:=by omega
  have la:i < l.length:=by omega
  have h0:(0:Int) ≤ i:=by omega
  have ga:(l.map Exp.row)[i]?=some (Exp.row l[i]):=by rw [List.getElem?_map,Qd la]; rfl
  have w:IntKind.i64.wrap ((i:Int) + 1)=((i + 1:Nat):Int):=by rw [zda (by omega) (by omega)]; omega
  have c1:=hc _ (List.getElem_mem la)
  rw [List.drop_eq_getElem_cons la] at hQ ho
  simp only [za8,Qg,← List.append_assoc] at hQ ho
  generalize l[i]=x at *
  rw [zfc] at ga
  have r2:za4 (out.length + (zbo x).length) 16=true:=by unfold za4; exact Ql (by omega)
  refine zah ?_
  simp only [zab,simprocAttr,zaa,List.range'_one,zhs,zy2,eq_true hy,h0,ga,ofDs,Qb,Qc,c1,Qf,r2,zq8,w]
  refine ⟨_,rfl,ih (i + 1) (out++zbo x) (by omega) (by rw [Qg]; omega) hQ⟩
set_option maxHeartbeats 1000000 in
theorem zyp {l:List Exp}{x1 x2 x3 x4 x5 x6 x7 x8:D}(hl:l.length ≤ 100000)(hc:∀ x ∈ l,lcall E 192 [x.arg] []=some (.d (.l 2 ((zbo x).map zaz)),[])){Q:Ex→St→Prop}:∀ (m i:Nat) (out:List (Int × Int)),i + m=l.length→out.length + (za8 (l.drop i)).length ≤ 1000000 →
  (∀ tm,za1 tm 2 = .own 2 0 2 ((out++za8 (l.drop i)).map zaz)→Q (.exit 0) ⟨tm,[some (.box [.d x1,.d x2,.d x3,.d x4,.d x5,.d x6,.d x7,.d x8]),some (.tok 0 2),some (.tok 0 2)]⟩) →
  LX E zhs ⟨[2,17,18,19],[2],[],[],[],true⟩ 3 ⟨[(2,.own 2 0 2 (out.map zaz)),(17,.d (.l 8 (l.map Exp.row))),(18,.d (.i .i64 l.length)),(19,.d (.i .i64 i))],[some (.box [.d x1,.d x2,.d x3,.d x4,.d x5,.d x6,.d x7,.d x8]),some (.tok 0 2),some (.tok 0 2)]⟩ Q:=by
 intro m
 induction m with
 | zero =>
  intro i out hi ho hQ
  have hn:¬ ((i:Int) < l.length):=by omega
  rw [List.drop_eq_nil_of_le (by omega)] at hQ
  simp only [za8,List.append_nil] at hQ
  refine zah ?_
  simp only [zab,simprocAttr,zaa,List.range'_one,zhs,zy2,hn]
  exact hQ _ rfl
 | succ m ih =>
  intro i out hi ho hQ
  have hy:(i:Int) < l.length:=by omega
  have la:i < l.length:=by omega
  have h0:(0:Int) ≤ i:=by omega
  have ga:(l.map Exp.row)[i]?=some (Exp.row l[i]):=by rw [List.getElem?_map,Qd la]; rfl
  have w:IntKind.i64.wrap ((i:Int) + 1)=((i + 1:Nat):Int):=by rw [zda (by omega) (by omega)]; omega
  have c1:=hc _ (List.getElem_mem la)
  rw [List.drop_eq_getElem_cons la] at hQ ho
  simp only [za8,Qg,← List.append_assoc] at hQ ho
  generalize l[i]=x at *
  rw [zfc] at ga
  have r2:za4 (out.length + (zbo x).length) 16=true:=by unfold za4; exact Ql (by omega)
  refine zah ?_
  simp only [zab,simprocAttr,zaa,List.range'_one,zhs,zy2,eq_true hy,h0,ga,ofDs,Qb,Qc,c1,Qf,r2,zq8,w]
  refine ⟨_,rfl,ih (i + 1) (out++zbo x) (by omega) (by rw [Qg]; omega) hQ⟩
theorem z2g (A:AE E){P:GVal→Prop}:∀ (n:Nat) (e:Exp),sizeOf e < n→AllV P e→(zbo e).length ≤ 1000000→lcall E 192 [e.arg] []=some (.d (.l 2 ((zbo e).map zaz)),[]):=by
 intro n
 induction n with
 | zero=>intro e hs; omega
 | succ n ih =>
  intro e hs ha hlen
  cases ha with
  | mk hve hae hl =>
  rw [zke,Qg] at hlen
  have hc:∀ x ∈ e.args,lcall E 192 [x.arg] []=some (.d (.l 2 ((zbo x).map zaz)),[]):=fun x hx =>
   ih x (by have:=zlp hx; omega) (hae x hx) (by have:=zq7 hx; omega)
  refine zaq A.e192 ?_
  rw [zke]
  by_cases h1:e.op=1
  ·have r1:za4 1 16=true:=rfl
   rw [if_pos h1] at hlen ⊢
   simp only [zab,simprocAttr,zaa,List.range'_one,zy2,eq_true h1,r1,Qf]
   refine zyp (by omega) hc e.args.length 0 [(e.occ,e.attr)] (by omega) (by rw [List.drop_zero]; simpa using hlen) (fun tm h2=>?_)
   simp only [zab,simprocAttr,zaa,List.range'_one,zy2,h2,List.drop_zero]
  ·rw [if_neg h1] at hlen ⊢
   simp only [zab,simprocAttr,zaa,List.range'_one,zy2,h1,Qf]
   refine zyo (by omega) hc e.args.length 0 [] (by omega) (by rw [List.drop_zero]; simpa using hlen) (fun tm h2=>?_)
   simp only [zab,simprocAttr,zaa,List.range'_one,zy2,h2,List.drop_zero]
open Go
def zn4 (v:GVal):Prop:=v.kind=1∧v.s=[]∧v.l=[]
theorem z6i (A:AE E){v:GVal}(h:zn4 v):lcall E 112 [v.arg] []=some (.d (.i .i64 1),[]):=by
 obtain ⟨h1,h2,h3⟩:=h
 have z:((0:Nat):Int)=0:=rfl
 have q:(0:Int).tdiv 16=0:=rfl
 have w0:IntKind.i64.wrap 0=0:=rfl
 have w1:IntKind.i64.wrap 1=1:=rfl
 refine zaq A.e112 ?_
 simp only [zab,simprocAttr,zaa,List.range'_one,Zdv,h2,h3,List.length_nil,zb7,Qc,z,q,w0,w1,Int.reduceAdd]
 refine zah ?_
 simp only [zab,simprocAttr,zaa,List.range'_one,Zdv,Int.lt_irrefl]
theorem zu0 (A:AE E){v:GVal}(h:zn4 v):lcall E 111 [v.arg] []=some (.d (.b true),[]):=by
 have c1:=z6i A h
 obtain ⟨h1,h2,h3⟩:=h
 have c2:lcall E 139 [v.arg] []=some (.d (.b true),[]):=by
  refine zaq A.e139 ?_
  simp only [zab,simprocAttr,zaa,List.range'_one,Zi4,h1]
 have c3:lcall E 140 [v.arg] []=some (.d (.b true),[]):=by
  refine zaq A.e140 ?_
  simp only [zab,simprocAttr,zaa,List.range'_one,Zi5,h1,h2,h3,zb7,Qc,List.length_nil,Int.cast_ofNat_Int]
 have c4:lcall E 141 [.d (.l 4 []),.d (.f 142 [] [])] []=some (.d (.b false),[]):=by
  have:=zg5 (E:=E) (key:=141) (ki:=155) (sz:=4) (ag:=true) A.e141 A.e155 (fun h=>by cases h) (l:=([]:List GVal)) (enc:=GVal.row) (p:=fun _=>false) (k:=142) (c:=[]) (by simp) (by simp) (by simp)
  exact this
 have c5:lcall E 125 [v.arg] []=some (.d (.b true),[]):=by
  refine zaq A.e125 ?_
  have hk:(1:Int) != 3:=rfl
  simp only [GVal.arg,h1,h2,h3,zb7,Qc] at c2 c3
  simp only [zab,simprocAttr,zaa,List.range'_one,Zi3,c2,c3,c4,h1,h2,h3,zb7,Qc,hk]
 refine zaq A.e111 ?_
 simp only [zab,simprocAttr,zaa,List.range'_one,Zi2,c1,c5]
def zfd (c:UInt8):Bool:=decide ((97:Int) ≤ (c.toNat:Int)) && decide ((c.toNat:Int) ≤ 122)
def zd2 (i:Nat)(c:UInt8):Bool:=!zfd c && (decide (i=0) || (decide ((c.toNat:Int) < 48) || decide ((c.toNat:Int) > 57)))
def zdl:List UInt8→Nat→Bool
 | [],_=>true
 | c :: r,i=>!zd2 i c && zdl r (i + 1)
def zfj (s:List UInt8):Bool:=decide (1 ≤ s.length) && (decide (s.length ≤ 8) && zdl s 0)
def zeh:CCode:=match zug.body with
 | .seq _ (.seq _ (.seq (.seq _ (.block _ (.loop _ c))) _))=>c
 | _=>.skip
theorem z2h {s:List UInt8}(hs:s.length ≤ 8){Q:Ex→St→Prop}(hno:∀ tm hp,zdl s 0=false→za1 tm 2 = .d (.b false)→Q .ret ⟨tm,hp⟩)(hyes:∀ tm,zdl s 0=true→Q (.exit 0) ⟨tm,[]⟩) :
  ∀ (m i:Nat),i + m=s.length→zdl s 0=zdl (s.drop i) i →
  LX E zeh ⟨[0,14,15],[],[],[],[],true⟩ 0 ⟨[(0,.d (.s s)),(14,.d (.i .i64 s.length)),(15,.d (.i .i64 i))],[]⟩ Q:=by
 intro m
 induction m with
 | zero =>
  intro i hi he
  have hn:¬ ((i:Int) < s.length):=by omega
  rw [List.drop_eq_nil_of_le (by omega)] at he
  refine zah ?_
  simp only [zab,simprocAttr,zaa,List.range'_one,zeh,zug,hn]
  exact hyes _ he
 | succ m ih =>
  intro i hi he
  have hy:(i:Int) < s.length:=by omega
  have la:i < s.length:=by omega
  have h0:(0:Int) ≤ i:=by omega
  have ga:s[i]?=some s[i]:=Qd la
  have w:IntKind.i64.wrap ((i:Int) + 1)=((i + 1:Nat):Int):=by rw [zda (by omega) (by omega)]; omega
  rw [List.drop_eq_getElem_cons la] at he
  simp only [zdl] at he
  generalize s[i]=c at *
  have fin1:zd2 i c=true→∀ tm hp,za1 tm 2 = .d (.b false)→Q .ret ⟨tm,hp⟩:=fun hb tm hp h2=>hno tm hp (by rw [he,hb]; rfl) h2
  have go1:zd2 i c=false→LX E zeh ⟨[0,14,15],[],[],[],[],true⟩ 0 ⟨[(0,.d (.s s)),(14,.d (.i .i64 s.length)),(15,.d (.i .i64 ((i + 1:Nat):Int)))],[]⟩ Q:=fun hb=>ih (i + 1) (by omega) (by rw [he,hb]; rfl)
  refine zah ?_
  by_cases a1:(c.toNat:Int) ≥ 97
  ·by_cases a2:(c.toNat:Int) ≤ 122
   ·have hb:zd2 i c=false:=by simp [zd2,zfd]; omega
    simp only [zab,simprocAttr,zaa,List.range'_one,zeh,zug,eq_true hy,h0,ga,w,eq_true a1,eq_true a2]
    exact ⟨_,rfl,go1 hb⟩
   ·have hl:zfd c=false:=by simp [zfd]; omega
    have b1:¬ (c.toNat:Int) < 48:=by omega
    have b2:(c.toNat:Int) > 57:=by omega
    have hb:zd2 i c=true:=by simp [zd2,hl]; omega
    by_cases i0:(i:Int)=0
    ·simp only [zab,simprocAttr,zaa,List.range'_one,zeh,zug,eq_true hy,h0,ga,w,eq_true a1,a2,eq_true i0]
     refine fin1 hb _ _ ?_
     simp only [zab,simprocAttr,zaa,List.range'_one]
    ·simp only [zab,simprocAttr,zaa,List.range'_one,zeh,zug,eq_true hy,h0,ga,w,eq_true a1,a2,i0,b1,eq_true b2]
     refine fin1 hb _ _ ?_
     simp only [zab,simprocAttr,zaa,List.range'_one]
  ·have hl:zfd c=false:=by simp [zfd]; omega
   by_cases i0:(i:Int)=0
   ·have hb:zd2 i c=true:=by simp [zd2,hl]; omega
    simp only [zab,simprocAttr,zaa,List.range'_one,zeh,zug,eq_true hy,h0,ga,w,a1,eq_true i0]
    refine fin1 hb _ _ ?_
    simp only [zab,simprocAttr,zaa,List.range'_one]
   ·by_cases b1:(c.toNat:Int) < 48
    ·have hb:zd2 i c=true:=by simp [zd2,hl]; omega
     simp only [zab,simprocAttr,zaa,List.range'_one,zeh,zug,eq_true hy,h0,ga,w,a1,i0,eq_true b1]
     refine fin1 hb _ _ ?_
     simp only [zab,simprocAttr,zaa,List.range'_one]
    ·by_cases b2:(c.toNat:Int) > 57
     ·have hb:zd2 i c=true:=by simp [zd2,hl]; omega
      simp only [zab,simprocAttr,zaa,List.range'_one,zeh,zug,eq_true hy,h0,ga,w,a1,i0,b1,eq_true b2]
      refine fin1 hb _ _ ?_
      simp only [zab,simprocAttr,zaa,List.range'_one]
     ·have hb:zd2 i c=false:=by simp [zd2,hl]; omega
      simp only [zab,simprocAttr,zaa,List.range'_one,zeh,zug,eq_true hy,h0,ga,w,a1,i0,b1,b2]
      exact ⟨_,rfl,go1 hb⟩
theorem Zae (A:AE E)(s:List UInt8):lcall E 220 [.d (.s s)] []=some (.d (.b (zfj s)),[]):=by
 refine zaq A.e220 ?_
 unfold zfj
 by_cases h1:(s.length:Int) < 1
 ·have h1':¬ 1 ≤ s.length:=by omega
  simp only [zab,simprocAttr,zaa,List.range'_one,zug,eq_true h1,h1',decide_false]
 ·have h1':1 ≤ s.length:=by omega
  by_cases h2:(s.length:Int) > 8
  ·have h2':¬ s.length ≤ 8:=by omega
   simp only [zab,simprocAttr,zaa,List.range'_one,zug,h1,eq_true h1',eq_true h2,h2',decide_false,decide_true]
  ·have h2':s.length ≤ 8:=by omega
   simp only [zab,simprocAttr,zaa,List.range'_one,zug,h1,eq_true h1',h2,eq_true h2',decide_true]
   refine z2h h2' (fun tm hp hg h2=>?_) (fun tm hg=>?_) s.length 0 (by omega) rfl
   ·simp only [zab,simprocAttr,zaa,List.range'_one,h2,hg]
   ·simp only [zab,simprocAttr,zaa,List.range'_one,hg]
theorem z2i (A:AE E)(s:List UInt8):lcall E 219 [.d (.s s)] []=some (.d (.b (!zfj s)),[]):=by
 have c1:=Zae A s
 refine zaq A.e219 ?_
 simp only [zab,simprocAttr,zaa,List.range'_one,Zjh,c1]
def zn5 (x:List UInt8):List (List UInt8)→Nat
 | []=>0
 | y :: r=>if x=y then 0 else zn5 x r + 1
def kvS (x:List UInt8):List D × V:=([.s x],.d (.b true))
theorem z2j (x:List UInt8):∀ (l:List (List UInt8)),zdb [.s] [.s x] (l.map kvS)=some (zn5 x l)
 | []=>rfl
 | y :: r=>by
  simp only [Qb,kvS,zdb,zn5]
  have h:zb8 [.s] [.s x] [.s y]=some (x == y && true):=rfl
  rw [h]
  by_cases e:x=y
  ·simp [e]
  ·have:=z2j x r
   have hb:(x == y)=false:=by simpa using e
   simp [hb,this,e]
theorem ztd {x:List UInt8}:∀ {l:List (List UInt8)},x ∈ l→(l.map kvS)[zn5 x l]?=some (kvS x)
 | y :: r,h=>by
  simp only [zn5]
  by_cases e:x=y
  ·simp [e]
  ·rw [if_neg e]
   have:=ztd (l:=r) (by rcases List.mem_cons.1 h with h | h; exact absurd h e; exact h)
   simpa using this
theorem zpx {x:List UInt8}:∀ {l:List (List UInt8)},x ∉ l→zn5 x l=l.length
 | [],_=>rfl
 | y :: r,h=>by
  simp only [zn5]
  rw [if_neg (fun e=>h (by rw [e]; exact List.mem_cons_self)),zpx (fun hr=>h (List.mem_cons_of_mem _ hr))]
  rfl
def zee:List (List UInt8)→List (List UInt8)→Bool
 | _,[]=>true
 | seen,x :: r=>if x ∈ seen then false else zee (seen++[x]) r
def zht:CCode:=match z68.body with
 | .seq _ (.seq _ (.seq (.seq _ (.block _ (.loop _ c))) _))=>c
 | _=>.skip
theorem zu1 {l:List (List UInt8)}(hl:l.length ≤ 100000){Q:Ex→St→Prop}(hno:∀ tm hp,zee [] l=false→za1 tm 2 = .d (.b false)→Q .ret ⟨tm,hp⟩)(hyes:∀ tm hp,zee [] l=true→Q (.exit 0) ⟨tm,hp⟩) :
  ∀ (m i:Nat) (seen:List (List UInt8)),i + m=l.length→zee [] l=zee seen (l.drop i) →
  LX E zht ⟨[3,7,8,9],[],[],[],[],true⟩ 1 ⟨[(3,.map 0),(7,.d (.l 1 (l.map za2))),(8,.d (.i .i64 l.length)),(9,.d (.i .i64 i))],[some (.map (seen.map kvS))]⟩ Q:=by
 intro m
 induction m with
 | zero =>
  intro i seen hi he
  have hn:¬ ((i:Int) < l.length):=by omega
  rw [List.drop_eq_nil_of_le (by omega)] at he
  refine zah ?_
  simp only [zab,simprocAttr,zaa,List.range'_one,zht,z68,hn]
  exact hyes _ _ he
 | succ m ih =>
  intro i seen hi he
  have hy:(i:Int) < l.length:=by omega
  have la:i < l.length:=by omega
  have h0:(0:Int) ≤ i:=by omega
  have ga:(l.map za2)[i]?=some [.s l[i]]:=by rw [List.getElem?_map,Qd la]; rfl
  have w:IntKind.i64.wrap ((i:Int) + 1)=((i + 1:Nat):Int):=by rw [zda (by omega) (by omega)]; omega
  rw [List.drop_eq_getElem_cons la] at he
  simp only [zee] at he
  generalize l[i]=x at *
  have ma:=z2j x seen
  refine zah ?_
  by_cases hx:x ∈ seen
  ·rw [if_pos hx] at he
   have pk:=ztd hx
   simp only [zab,simprocAttr,zaa,List.range'_one,zht,z68,eq_true hy,h0,ga,ma,pk,kvS,ofDs,Qb,Qc,List.length_cons,List.length_nil]
   refine hno _ _ he ?_
   simp only [zab,simprocAttr,zaa,List.range'_one]
  ·rw [if_neg hx] at he
   have pk:=zpx hx
   rw [pk] at ma
   have pn:(seen.map kvS)[seen.length]?=none:=Qe (by simp)
   have pp:zsa (seen.map kvS) [.s x] (.d (.b true)) seen.length=(seen++[x]).map kvS:=by
    unfold zsa
    rw [if_neg (by simp)]
    simp [kvS]
   simp only [zab,simprocAttr,zaa,List.range'_one,zht,z68,eq_true hy,h0,ga,ma,pn,pp,w,ofDs,Qb,Qc,List.length_cons,List.length_nil]
   have hk:∀ (l:List (List UInt8)),zct 1 (l.map kvS)=true:=fun l=>by
    induction l with
    | nil=>rfl
    | cons y r ih2=>simp only [Qb,kvS,zct,V.under,Bool.true_and]; simpa [kvS] using ih2
   have hn:∀ (h:List (Option Obj)) (l:List (List UInt8)),(l.map kvS).map (fun p=>(p.1,zdq h p.2))=l.map kvS:=fun h l=>by
    rw [List.map_map]; rfl
   rw [hk,hn]
   exact ⟨_,rfl,ih (i + 1) (seen++[x]) (by omega) he⟩
theorem z2k (A:AE E){l:List (List UInt8)}(hl:l.length ≤ 100000):lcall E 217 [.d (.l 1 (l.map za2))] []=some (.d (.b (zee [] l)),[]):=by
 refine zaq A.e217 ?_
 simp only [zab,simprocAttr,zaa,List.range'_one,z68,Qf]
 refine zu1 hl (fun tm hp h h2=>?_) (fun tm hp h=>?_) l.length 0 [] (by omega) rfl
 ·simp only [zab,simprocAttr,zaa,List.range'_one,h2,h]
 ·simp only [zab,simprocAttr,zaa,List.range'_one,h]
def zgq (l:List (List UInt8)):Bool:=zee [] l && !l.any fun s=>!zfj s
theorem zw6 (A:AE E){l:List (List UInt8)}(hl:l.length ≤ 100000):lcall E 202 [.d (.l 1 (l.map za2))] []=some (.d (.b (zgq l)),[]):=by
 have c1:=z2k A hl
 have c2:=zg5 (E:=E) (key:=218) (ki:=233) (sz:=1) (ag:=false) A.e218 A.e233 (fun _=>rfl) (l:=l) (enc:=za2) (p:=fun s=>!zfj s) (k:=219) (c:=[]) (by omega) (fun _ _=>rfl) (fun s _=>z2i A s)
 refine zaq A.e202 ?_
 unfold zgq
 cases h:zee [] l
 ·rw [h] at c1
  simp only [zab,simprocAttr,zaa,List.range'_one,Zd2,c1]
 ·rw [h] at c1
  simp only [zab,simprocAttr,zaa,List.range'_one,Zd2,c1,c2]
theorem zyq (A:AE E){xs:List (List D)}(hl:xs.length ≤ 100000)(m:Int):lcall E 198 [.d (.l 3 xs),.d (.i .i64 m)] []=some (.d (.b (decide (1 ≤ xs.length) && decide ((xs.length:Int) ≤ m))),[]):=by
 refine zaq A.e198 ?_
 by_cases h:(xs.length:Int) ≥ 1
 ·have h':1 ≤ xs.length:=by omega
  simp only [zab,simprocAttr,zaa,List.range'_one,Zdz,eq_true h,eq_true h',decide_true]
 ·have h':¬ 1 ≤ xs.length:=by omega
  simp only [zab,simprocAttr,zaa,List.range'_one,Zdz,h,h',decide_false]
theorem zyr (A:AE E){xs:List (List D)}(hl:xs.length ≤ 100000)(m:Int):lcall E 199 [.d (.l 3 xs),.d (.i .i64 m)] []=some (.d (.b (decide (1 ≤ xs.length) && decide ((xs.length:Int) ≤ m))),[]):=by
 refine zaq A.e199 ?_
 by_cases h:(xs.length:Int) ≥ 1
 ·have h':1 ≤ xs.length:=by omega
  simp only [zab,simprocAttr,zaa,List.range'_one,Zd0,eq_true h,eq_true h',decide_true]
 ·have h':¬ 1 ≤ xs.length:=by omega
  simp only [zab,simprocAttr,zaa,List.range'_one,Zd0,h,h',decide_false]
theorem zys (A:AE E){xs:List (List D)}(hl:xs.length ≤ 100000)(m:Int):lcall E 200 [.d (.l 3 xs),.d (.i .i64 m)] []=some (.d (.b (decide (1 ≤ xs.length) && decide ((xs.length:Int) ≤ m))),[]):=by
 refine zaq A.e200 ?_
 by_cases h:(xs.length:Int) ≥ 1
 ·have h':1 ≤ xs.length:=by omega
  simp only [zab,simprocAttr,zaa,List.range'_one,Zd1,eq_true h,eq_true h',decide_true]
 ·have h':¬ 1 ≤ xs.length:=by omega
  simp only [zab,simprocAttr,zaa,List.range'_one,Zd1,h,h',decide_false]
def zja (g:Gram)(s:GSym):Bool:=if s.tok then decide (0 ≤ s.at_) && (decide (s.at_ < g.toks.length) && (match g.toks[s.at_.toNat]? with | some t=>!t.skip | none=>false)) else decide (0 ≤ s.at_) && decide (s.at_ < g.nts.length)
theorem Ze5 (A:AE E)(g:Gram)(s:GSym):lcall E 224 [g.arg,s.arg] []=some (.d (.b (zja g s)),[]):=by
 refine zaq A.e224 ?_
 unfold zja
 cases ht:s.tok
 ·by_cases h0:s.at_ ≥ 0
  ·have h0':0 ≤ s.at_:=h0
   simp only [zab,simprocAttr,zaa,List.range'_one,z69,ht,eq_true h0,eq_true h0',decide_true,Qf]
  ·have h0':¬ 0 ≤ s.at_:=h0
   simp only [zab,simprocAttr,zaa,List.range'_one,z69,ht,h0,h0',decide_false]
 ·by_cases h0:s.at_ ≥ 0
  ·have h0':0 ≤ s.at_:=h0
   by_cases h1:s.at_ < g.toks.length
   ·obtain ⟨t,hx,_⟩:=zkd h0' h1
    simp only [zab,simprocAttr,zaa,List.range'_one,z69,ht,eq_true h0,eq_true h0',eq_true h1,hx,decide_true,Qf,List.getElem?_map,Option.map_some,GTok.row,ofDs,Qb,Qc]
   ·simp only [zab,simprocAttr,zaa,List.range'_one,z69,ht,eq_true h0,eq_true h0',h1,decide_true,decide_false,Qf]
  ·have h0':¬ 0 ≤ s.at_:=h0
   simp only [zab,simprocAttr,zaa,List.range'_one,z69,ht,h0,h0',decide_false]
def zd5 (g:Gram)(p:GProd):Bool:=decide (0 ≤ p.left) && (decide (p.left < g.nts.length) && (decide ((p.right.length:Int) ≤ 5) && !p.right.any fun s=>!zja g s))
theorem z6j (A:AE E)(g:Gram){p:GProd}(hp:p.Ok):lcall E 205 [g.arg,p.arg] []=some (.d (.b (zd5 g p)),[]):=by
 have hr:=hp.right
 have hc:∀ s:GSym,lcall E 223 (zm2 true s.row :: ofDs [.q g.cells 0]) []=some (.d (.b (!zja g s)),[]):=fun s=>by
  have c:=Ze5 A g s
  show lcall E 223 [s.arg,.d (.q g.cells 0)] []=_
  refine zaq A.e223 ?_
  simp only [zab,simprocAttr,zaa,List.range'_one,Zji,c,ofDs,Qb,Qc]
 have c1:=zg5 (E:=E) (key:=222) (ki:=234) (sz:=2) (ag:=true) A.e222 A.e234 (fun h=>by cases h) (l:=p.right) (enc:=GSym.row) (p:=fun s=>!zja g s) (k:=223) (c:=[.q g.cells 0]) (by omega) (fun _ _=>rfl) (fun s _=>hc s)
 refine zaq A.e205 ?_
 unfold zd5
 by_cases h0:p.left ≥ 0
 ·have h0':0 ≤ p.left:=h0
  by_cases h1:p.left < g.nts.length
  ·by_cases h2:(p.right.length:Int) ≤ 5
   ·simp only [zab,simprocAttr,zaa,List.range'_one,z9l,c1,eq_true h0,eq_true h0',eq_true h1,eq_true h2,decide_true,Qf]
   ·simp only [zab,simprocAttr,zaa,List.range'_one,z9l,eq_true h0,eq_true h0',eq_true h1,h2,decide_true,decide_false,Qf]
  ·simp only [zab,simprocAttr,zaa,List.range'_one,z9l,eq_true h0,eq_true h0',h1,decide_true,decide_false,Qf]
 ·have h0':¬ 0 ≤ p.left:=h0
  simp only [zab,simprocAttr,zaa,List.range'_one,z9l,h0,h0',decide_false]
open Go
theorem zd3:∀ (xs:List (List D)),zcj (xs.map ofDs)=[]
 | []=>rfl
 | r :: rs=>by simp only [Qb,zcj,zg4,zd3 rs,List.nil_append]
theorem zhj (f sh:Nat→Nat):∀ (xs:List (List D)),zeb f sh (xs.map ofDs)=xs.map ofDs
 | []=>rfl
 | r :: rs=>by simp only [Qb,zeb,zjt,zhj f sh rs]
theorem zyt {v sz n:Nat}{rows:List (List D)}(hn:n=rows.length)(hr:∀ r ∈ rows,r.length ≤ 20)(hl:rows.length < 3000):zdy 0 (.arr 0 v 0 n) [some (.arr v sz (rows.map ofDs))]=some (.d (.l sz rows),[]):=by
 have h0:zeu 0 (.arr 0 v 0 n)=[0]:=rfl
 have h1:V.lend (fun i=>(([some (.arr v sz (rows.map ofDs))]:List (Option Obj))[i]?).join) far (.arr 0 v 0 n)=some (.l sz rows):=by
  rw [zv0 (n:=20) rfl hr (by omega) (by omega)]
  subst hn
  simp
 have h2:Za6 0 (fun i=>(([some (.arr v sz (rows.map ofDs))]:List (Option Obj))[i]?).join) (.arr 0 v 0 n)=some (.d (.l sz rows)):=by
  show (if 0 ≤ 0 then (match V.lend (fun i=>(([some (.arr v sz (rows.map ofDs))]:List (Option Obj))[i]?).join) far (.arr 0 v 0 n) with | some d=>some (V.d d) | none=>none) else some (.arr 0 v 0 n))=_
  rw [h1]; rfl
 have h3:zbt (fun i=>(([some (.arr v sz (rows.map ofDs))]:List (Option Obj))[i]?).join) far [0] []=some [0]:=by
  show zbt _ 4095 ([]++zcj (rows.map ofDs)) ([]++[0])=_
  rw [zd3]; rfl
 unfold zdy
 simp only [h0,h2,h3]
 rfl
def Ze6 (C:za0)(K:St→List Foot→Prop)(b d sz bytes:Nat)(r:List CO)(j:Nat)(tm:List (Nat × V))(hp:List (Option Obj))(es:List Foot)(id ver off len:Nat)(y:V)(ys:List (List V)):Option Obj→Prop
 | some (.arr ver' sz' xs)=>((ver=ver'∧sz'=sz∧off + len ≤ xs.length∧y.other id=true∧za4 (len + ys.length) bytes=true) ∧
    go C K b r (j + 1) ((d,.arr id (ver + 1) 0 (len + ys.length)) :: tm) (zar hp (id :: zbv y) (some (.arr (ver + 1) sz ((xs.drop off).take len++ys)) :: (zbv y).map (zbc hp))) (⟨id :: zbv y,true,b + j,0⟩ :: es))
 | _=>False
theorem ztm :
  (∀ (C:za0) (K:St→List Foot→Prop) (b d sz bytes:Nat) (r:List CO) (j:Nat) (tm:List (Nat × V)) (hp:List (Option Obj)) (es:List Foot) (id ver off len:Nat) (y:V) (ys:List (List V)),z9a C K b d sz bytes r j tm hp es (.arr id ver off len) y (some ys)=Ze6 C K b d sz bytes r j tm hp es id ver off len y ys (zbc hp id)) ∧
  (∀ (C:za0) (K:St→List Foot→Prop) (b d sz bytes:Nat) (r:List CO) (j:Nat) (tm:List (Nat × V)) (hp:List (Option Obj)) (es:List Foot) (id ver off len:Nat) (y:V) (ys:List (List V)) (ver' sz':Nat) (xs:List (List V)),Ze6 C K b d sz bytes r j tm hp es id ver off len y ys (some (.arr ver' sz' xs))=((ver=ver'∧sz'=sz∧off + len ≤ xs.length∧y.other id=true∧za4 (len + ys.length) bytes=true) ∧
    go C K b r (j + 1) ((d,.arr id (ver + 1) 0 (len + ys.length)) :: tm) (zar hp (id :: zbv y) (some (.arr (ver + 1) sz ((xs.drop off).take len++ys)) :: (zbv y).map (zbc hp))) (⟨id :: zbv y,true,b + j,0⟩ :: es))) ∧
  (∀ (i:Nat) (x:D),V.other i (.d x)=true):=by
 refine ⟨fun C K b d sz bytes r j tm hp es id ver off len y ys=>?_, ?_, ?_⟩
 ·simp only [z9a]
  cases zbc hp id with
  | none=>rfl
  | some o=>cases o <;> rfl
 ·intros; rfl
 ·intros; rfl
theorem evZ :
  (∀ (x:A),Cop.nmk (.capn x)=0)∧(∀ (sz b:Nat) (z:List D) (x y:A),Cop.nmk (.apz sz b z x y)=1)∧(∀ (sz b:Nat) (x y:A),Cop.nmk (.apa sz b x y)=1)∧(∀ (k r:Nat) (as:List A),Cop.nmk (.callr k as r)=r)∧(∀ (s:Nat),zbv (.nil s)=[]) ∧
  (∀ C K b r j tm hp es (d p sz bytes:Nat) (z:List D) (x y:A),go C K b (⟨some d,.apz sz bytes z x y,none,p⟩ :: r) j tm hp es=(match Zdl sz bytes (b + j) z (evT tm x) (evT tm y) with
  | some (v,o)=>go C K b r (j + 1) ((d,v) :: tm) (hp.set (b + j) (some o)) (⟨[],true,b + j,1⟩ :: es)
  | none=>False)) ∧
  (∀ (sz bytes f s:Nat) (z:List D) (k:IntKind) (n:Int),Zdl sz bytes f z (.nil s) (.d (.i k n))=if 0 ≤ n∧za4 n.toNat bytes=true then some (.arr f 0 0 n.toNat,.arr 0 sz (List.replicate n.toNat (ofDs z))) else none) ∧
  (∀ C K b r j tm hp es (d p:Nat) (x:A),go C K b (⟨some d,.capn x,none,p⟩ :: r) j tm hp es=goV C K b d r j tm hp es [] (match evT tm x with | .nil _=>some (.d (.i .i64 0)) | _=>none)) ∧
  (∀ (C:za0) (K:St→List Foot→Prop) (b d sz bytes:Nat) (r:List CO) (j:Nat) (tm:List (Nat × V)) (hp:List (Option Obj)) (es:List Foot) (s:Nat) (y:V) (ys:List (List V)),z9a C K b d sz bytes r j tm hp es (.nil s) y (some ys)=(za4 ys.length bytes=true∧go C K b r (j + 1) ((d,.arr (b + j) 0 0 ys.length) :: tm) (zar (zar hp (zbv y) ((zbv y).map (zbc hp))) [b + j] [some (.arr 0 sz ys)]) (⟨zbv y,true,b + j,1⟩ :: es))) ∧
  (∀ (sz:Nat) (hp:List (Option Obj)) (s:Nat) (xs:List (List D)),z89 sz hp (.d (.l s xs))=if s=sz then some (xs.map ofDs) else none) ∧
  (∀ (hp:List (Option Obj)) (sz s:Nat) (lo hi:Option V),zn7 sz hp (.nil s) lo hi=match zbi lo hi 0 with | some _=>some (.nil s) | none=>none):=by
 refine ⟨fun _=>rfl,fun _ _ _ _ _=>rfl,fun _ _ _ _=>rfl,fun _ _ _=>rfl,fun _=>rfl,fun C K b r j tm hp es d p sz bytes z x y=>Zdm ..,?_,fun C K b r j tm hp es d p x=>z88 .., ?_, ?_, ?_⟩
 ·intros; rfl
 ·intros; rfl
 ·intro sz hp s xs
  simp only [z89,zbv,Qc,zec,zet]
  by_cases h:s=sz <;> simp [h]
 ·intros; rfl
theorem z6k (n:Nat):zcj (List.replicate n [V.d (D.s [])])=[]:=by
 induction n with
 | zero=>rfl
 | succ n ih=>simp only [List.replicate_succ,zcj,ih]; rfl
theorem z2l (f sh:Nat→Nat)(n:Nat):zeb f sh (List.replicate n [V.d (D.s [])])=List.replicate n [V.d (D.s [])]:=by
 induction n with
 | zero=>rfl
 | succ n ih=>simp only [List.replicate_succ,zeb,ih]; rfl
theorem z6l (A:AE E):lcall E 216 [.nil 1,.d (.i .i64 0)] []=some (.nil 1,[]):=by
 refine zaq A.e216 ?_
 have w0:IntKind.i64.wrap 0=0:=rfl
 simp only [zab,Nat.reduceBEq,↓reduceIte,Nat.reduceEqDiff,Nat.reduceAdd,Nat.reduceLeDiff,Nat.reduceSub,Nat.reduceLT,reduceCtorEq,Int.reduceEq,Int.reduceLT,Int.reduceLE,Int.reduceNeg,zaa,Int.reduceToNat,Nat.reduceMul,List.range'_one,Zd3,evZ,w0,Int.sub_self]
theorem z6m (A:AE E){n:Nat}(h0:0 < n)(hn:n ≤ 100000):lcall E 216 [.nil 1,.d (.i .i64 n)] []=some (.arr 0 0 0 0,[some (.arr 0 1 (List.replicate n [.d (.s [])]))]):=by
 refine zaq A.e216 ?_
 have w0:IntKind.i64.wrap 0=0:=rfl
 have h1:¬ (n:Int) < 0:=by omega
 have w1:IntKind.i64.wrap (n:Int)=n:=zda (by omega) (by omega)
 have h2:(n:Int) > 0:=by omega
 have h3:(0:Int) ≤ (n:Int):=by omega
 have r2:za4 n 16=true:=by unfold za4; exact Ql (by omega)
 have b1:zbi none (some (.d (.i .i64 0))) 0=some (0,0):=rfl
 have b2:zbi none (some (.d (.i .i64 0))) n=some (0,0):=by
  unfold zbi
  simp only
  rw [if_pos ⟨by omega,by omega,by omega⟩]; rfl
 simp only [zab,Nat.reduceBEq,↓reduceIte,Nat.reduceEqDiff,Nat.reduceAdd,Nat.reduceLeDiff,Nat.reduceSub,Nat.reduceLT,reduceCtorEq,Int.reduceEq,Int.reduceLT,Int.reduceLE,Int.reduceNeg,zaa,Int.reduceToNat,Nat.reduceMul,List.range'_one,Zd3,evZ,w0,Int.sub_self,Int.sub_zero,h1,w1,eq_true h2,eq_true h3,r2,b1,b2,ofDs,Qb,Qc,z6k,z2l]
theorem zte (a b:List (List D)):a.map ofDs++b.map ofDs=(a++b).map ofDs:=by simp
theorem z2m (A:AE E){R1 R2:List (List D)}(h1:R1.length ≤ 1000)(h2:R2.length ≤ 1000):∃ v,lcall E 201 [.d (.l 1 [[.l 1 R1],[.l 1 R2]])] []=some (.arr 0 v 0 (R1++R2).length,[some (.arr v 1 ((R1++R2).map ofDs))]):=by
 have w1:IntKind.i64.wrap (0 + (R1.length:Int))=(R1.length:Int):=by rw [Int.zero_add]; exact zda (by omega) (by omega)
 have w2:IntKind.i64.wrap ((R1.length:Int) + (R2.length:Int))=((R1.length + R2.length:Nat):Int):=by rw [zda (by omega) (by omega)]; omega
 have n1:¬ (R1.length:Int) < 0:=by omega
 have n2:¬ ((R1.length + R2.length:Nat):Int) < 0:=by omega
 have a1:IntKind.i64.wrap (0 + 1)=1:=rfl
 have a2:IntKind.i64.wrap (1 + 1)=2:=rfl
 have lt:(0:Int) < 2:=by omega
 have r1:za4 R1.length 16=true:=by unfold za4; exact Ql (by omega)
 have r2:za4 (R1.length + R2.length) 16=true:=by unfold za4; exact Ql (by omega)
 rcases Nat.eq_zero_or_pos (R1.length + R2.length) with h | h
 ·have e1:R1=[]:=List.eq_nil_of_length_eq_zero (by omega)
  have e2:R2=[]:=List.eq_nil_of_length_eq_zero (by omega)
  subst e1; subst e2
  have g:=z6l A
  refine ⟨1,zaq A.e201 ?_⟩
  have z0:za4 0 16=true:=rfl
  have w0:IntKind.i64.wrap 0=0:=rfl
  simp only [zab,Nat.reduceBEq,↓reduceIte,Nat.reduceEqDiff,Nat.reduceAdd,Nat.reduceLeDiff,Nat.reduceSub,Nat.reduceLT,reduceCtorEq,Int.reduceEq,Int.reduceLT,Int.reduceLE,Int.reduceNeg,zaa,Int.reduceToNat,Nat.reduceMul,List.range'_one,zsd,ztm,evZ,List.length_cons,List.length_nil]
  refine zah ?_
  simp only [zab,Nat.reduceBEq,↓reduceIte,Nat.reduceEqDiff,Nat.reduceAdd,Nat.reduceLeDiff,Nat.reduceSub,Nat.reduceLT,reduceCtorEq,Int.reduceEq,Int.reduceLT,Int.reduceLE,Int.reduceNeg,zaa,Int.reduceToNat,Nat.reduceMul,List.range'_one,zsd,ztm,evZ,a1,List.length_nil,w0,Int.add_zero]
  refine ⟨_,rfl,zah ?_⟩
  simp only [zab,Nat.reduceBEq,↓reduceIte,Nat.reduceEqDiff,Nat.reduceAdd,Nat.reduceLeDiff,Nat.reduceSub,Nat.reduceLT,reduceCtorEq,Int.reduceEq,Int.reduceLT,Int.reduceLE,Int.reduceNeg,zaa,Int.reduceToNat,Nat.reduceMul,List.range'_one,zsd,ztm,evZ,a1,a2,List.length_nil,w0,Int.add_zero]
  refine ⟨_,rfl,zah ?_⟩
  simp only [zab,Nat.reduceBEq,↓reduceIte,Nat.reduceEqDiff,Nat.reduceAdd,Nat.reduceLeDiff,Nat.reduceSub,Nat.reduceLT,reduceCtorEq,Int.reduceEq,Int.reduceLT,Int.reduceLE,Int.reduceNeg,zaa,Int.reduceToNat,Nat.reduceMul,List.range'_one,zsd,ztm,evZ,Int.lt_irrefl,g,List.length_cons,List.length_nil,w0,Int.add_zero]
  refine zah ?_
  simp only [zab,Nat.reduceBEq,↓reduceIte,Nat.reduceEqDiff,Nat.reduceAdd,Nat.reduceLeDiff,Nat.reduceSub,Nat.reduceLT,reduceCtorEq,Int.reduceEq,Int.reduceLT,Int.reduceLE,Int.reduceNeg,zaa,Int.reduceToNat,Nat.reduceMul,List.range'_one,zsd,ztm,evZ,a1,z0,Qc,List.length_nil]
  refine ⟨_,rfl,zah ?_⟩
  simp only [zab,Nat.reduceBEq,↓reduceIte,Nat.reduceEqDiff,Nat.reduceAdd,Nat.reduceLeDiff,Nat.reduceSub,Nat.reduceLT,reduceCtorEq,Int.reduceEq,Int.reduceLT,Int.reduceLE,Int.reduceNeg,zaa,Int.reduceToNat,Nat.reduceMul,List.range'_one,zsd,ztm,evZ,a1,a2,z0,Qc,List.length_nil,List.append_nil,V.other]
  refine ⟨_,rfl,zah ?_⟩
  simp only [zab,Nat.reduceBEq,↓reduceIte,Nat.reduceEqDiff,Nat.reduceAdd,Nat.reduceLeDiff,Nat.reduceSub,Nat.reduceLT,reduceCtorEq,Int.reduceEq,Int.reduceLT,Int.reduceLE,Int.reduceNeg,zaa,Int.reduceToNat,Nat.reduceMul,List.range'_one,zsd,ztm,evZ,Int.lt_irrefl,zcj,zeb]
 ·have g:=z6m A h (by omega)
  refine ⟨2,zaq A.e201 ?_⟩
  simp only [zab,Nat.reduceBEq,↓reduceIte,Nat.reduceEqDiff,Nat.reduceAdd,Nat.reduceLeDiff,Nat.reduceSub,Nat.reduceLT,reduceCtorEq,Int.reduceEq,Int.reduceLT,Int.reduceLE,Int.reduceNeg,zaa,Int.reduceToNat,Nat.reduceMul,List.range'_one,zsd,ztm,evZ,List.length_cons,List.length_nil]
  refine zah ?_
  simp only [zab,Nat.reduceBEq,↓reduceIte,Nat.reduceEqDiff,Nat.reduceAdd,Nat.reduceLeDiff,Nat.reduceSub,Nat.reduceLT,reduceCtorEq,Int.reduceEq,Int.reduceLT,Int.reduceLE,Int.reduceNeg,zaa,Int.reduceToNat,Nat.reduceMul,List.range'_one,zsd,ztm,evZ,a1,w1,n1]
  refine ⟨_,rfl,zah ?_⟩
  simp only [zab,Nat.reduceBEq,↓reduceIte,Nat.reduceEqDiff,Nat.reduceAdd,Nat.reduceLeDiff,Nat.reduceSub,Nat.reduceLT,reduceCtorEq,Int.reduceEq,Int.reduceLT,Int.reduceLE,Int.reduceNeg,zaa,Int.reduceToNat,Nat.reduceMul,List.range'_one,zsd,ztm,evZ,a1,a2,w2,n2]
  refine ⟨_,rfl,zah ?_⟩
  simp only [zab,Nat.reduceBEq,↓reduceIte,Nat.reduceEqDiff,Nat.reduceAdd,Nat.reduceLeDiff,Nat.reduceSub,Nat.reduceLT,reduceCtorEq,Int.reduceEq,Int.reduceLT,Int.reduceLE,Int.reduceNeg,zaa,Int.reduceToNat,Nat.reduceMul,List.range'_one,zsd,ztm,evZ,Int.lt_irrefl,g,List.length_cons,List.length_nil,z2l]
  refine zah ?_
  simp only [zab,Nat.reduceBEq,↓reduceIte,Nat.reduceEqDiff,Nat.reduceAdd,Nat.reduceLeDiff,Nat.reduceSub,Nat.reduceLT,reduceCtorEq,Int.reduceEq,Int.reduceLT,Int.reduceLE,Int.reduceNeg,zaa,Int.reduceToNat,Nat.reduceMul,List.range'_one,zsd,ztm,evZ,a1,List.length_nil,List.length_replicate,r1,Qf,List.take_zero,List.nil_append,V.other,Nat.zero_le,Nat.zero_add]
  refine ⟨_,rfl,zah ?_⟩
  have tk:(R1.map ofDs).take R1.length=R1.map ofDs:=List.take_of_length_le (by simp)
  simp only [zab,Nat.reduceBEq,↓reduceIte,Nat.reduceEqDiff,Nat.reduceAdd,Nat.reduceLeDiff,Nat.reduceSub,Nat.reduceLT,reduceCtorEq,Int.reduceEq,Int.reduceLT,Int.reduceLE,Int.reduceNeg,zaa,Int.reduceToNat,Nat.reduceMul,List.range'_one,zsd,ztm,evZ,a1,a2,r2,Qf,List.drop_zero,tk,zte,V.other,Nat.zero_le,Nat.zero_add,Nat.le_refl]
  refine ⟨_,rfl,zah ?_⟩
  simp only [zab,Nat.reduceBEq,↓reduceIte,Nat.reduceEqDiff,Nat.reduceAdd,Nat.reduceLeDiff,Nat.reduceSub,Nat.reduceLT,reduceCtorEq,Int.reduceEq,Int.reduceLT,Int.reduceLE,Int.reduceNeg,zaa,Int.reduceToNat,Nat.reduceMul,List.range'_one,zsd,ztm,evZ,Int.lt_irrefl,zd3,zhj,Qg]
open Go
def Zaf:CCode:=match zuf.body with
 | .seq _ (.seq _ (.seq _ (.seq (.seq _ (.block _ (.loop _ c))) _)))=>c
 | _=>.skip
def z2n:CCode:=match zuf.body with
 | .seq _ (.seq _ (.seq _ (.seq _ (.seq (.seq _ (.block _ (.loop _ c))) _))))=>c
 | _=>.skip
theorem zfq (l:List (List UInt8))(s:List UInt8):l.map za2++[[.s s]]=(l++[s]).map za2:=by simp [za2]
theorem z2o {x y z:D}{l:List GTok}(hl:l.length ≤ 1000){Q:Ex→St→Prop}:∀ (m i:Nat) (out:List (List UInt8)),i + m=l.length→out.length ≤ i →
  (∀ tm,za1 tm 1 = .ptr 0 0→za1 tm 3 = .own 1 0 1 ((out++(l.drop i).map GTok.name).map za2)→Q (.exit 0) ⟨tm,[some (.box [.d x,.d y,.d z]),some (.tok 0 1)]⟩) →
  LX E Zaf ⟨[1,3,26,27,28],[3],[],[],[],true⟩ 2 ⟨[(1,.ptr 0 0),(3,.own 1 0 1 (out.map za2)),(26,.d (.l 3 (l.map GTok.row))),(27,.d (.i .i64 l.length)),(28,.d (.i .i64 i))],[some (.box [.d x,.d y,.d z]),some (.tok 0 1)]⟩ Q:=by
 intro m
 induction m with
 | zero =>
  intro i out hi ho hQ
  have hn:¬ ((i:Int) < l.length):=by omega
  rw [List.drop_eq_nil_of_le (by omega)] at hQ
  simp only [Qc,List.append_nil] at hQ
  refine zah ?_
  simp only [zab,simprocAttr,zaa,List.range'_one,Zaf,zuf,hn]
  exact hQ _ rfl rfl
 | succ m ih =>
  intro i out hi ho hQ
  have hy:(i:Int) < l.length:=by omega
  have la:i < l.length:=by omega
  have h0:(0:Int) ≤ i:=by omega
  have ga:(l.map GTok.row)[i]?=some [.s l[i].name,.s l[i].rex,.b l[i].skip]:=by rw [List.getElem?_map,Qd la]; rfl
  have w:IntKind.i64.wrap ((i:Int) + 1)=((i + 1:Nat):Int):=by rw [zda (by omega) (by omega)]; omega
  have r2:za4 (out.length + 1) 16=true:=by unfold za4; exact Ql (by omega)
  rw [List.drop_eq_getElem_cons la] at hQ
  simp only [Qb] at hQ
  generalize l[i]=t at *
  refine zah ?_
  simp only [zab,simprocAttr,zaa,List.range'_one,Zaf,zuf,eq_true hy,h0,ga,ofDs,Qb,Qc,Qf,r2,zfq,w]
  exact ⟨_,rfl,ih (i + 1) (out++[t.name]) (by omega) (by simp; omega) (by simpa using hQ)⟩
def zhz (n:GNt):Bool:=decide (((n.inh++n.syn).length:Int) > 4) || !zgq (n.inh++n.syn)
theorem z2p (A:AE E){x y z:D}{l:List GNt}(hl:l.length ≤ 1000)(hn:∀ n ∈ l,n.inh.length ≤ 1000∧n.syn.length ≤ 1000){Q:Ex→St→Prop}:∀ (m i:Nat) (out:List (List UInt8)),i + m=l.length→out.length ≤ i + 1000 →
  ((l.drop i).any zhz=true→∀ tm hp,za1 tm 2 = .d (.b false)→Q .ret ⟨tm,hp⟩) →
  ((l.drop i).any zhz=false→∀ tm,za1 tm 1 = .ptr 0 0→za1 tm 3 = .own 1 0 1 ((out++(l.drop i).map GNt.name).map za2)→Q (.exit 2) ⟨tm,[some (.box [.d x,.d y,.d z]),some (.tok 0 1)]⟩) →
  LX E z2n ⟨[1,3,39,40,41],[3],[],[],[],true⟩ 2 ⟨[(1,.ptr 0 0),(3,.own 1 0 1 (out.map za2)),(39,.d (.l 3 (l.map GNt.row))),(40,.d (.i .i64 l.length)),(41,.d (.i .i64 i))],[some (.box [.d x,.d y,.d z]),some (.tok 0 1)]⟩ Q:=by
 intro m
 induction m with
 | zero =>
  intro i out hi ho hQ1 hQ
  have hn:¬ ((i:Int) < l.length):=by omega
  rw [List.drop_eq_nil_of_le (by omega)] at hQ
  simp only [Qc,List.append_nil,List.any_nil,forall_const] at hQ
  refine zah ?_
  simp only [zab,simprocAttr,zaa,List.range'_one,z2n,zuf,hn]
  exact hQ _ rfl rfl
 | succ m ih =>
  intro i out hi ho hQ1 hQ
  have hy:(i:Int) < l.length:=by omega
  have la:i < l.length:=by omega
  have h0:(0:Int) ≤ i:=by omega
  have ga:(l.map GNt.row)[i]?=some [.s l[i].name,.l 1 (l[i].inh.map za2),.l 1 (l[i].syn.map za2)]:=by rw [List.getElem?_map,Qd la]; rfl
  have w:IntKind.i64.wrap ((i:Int) + 1)=((i + 1:Nat):Int):=by rw [zda (by omega) (by omega)]; omega
  have r2:za4 (out.length + 1) 16=true:=by unfold za4; exact Ql (by omega)
  have hb:=hn _ (List.getElem_mem la)
  rw [List.drop_eq_getElem_cons la] at hQ hQ1
  simp only [Qb,List.any_cons,Bool.or_eq_true,Bool.or_eq_false_iff] at hQ hQ1
  generalize l[i]=t at *
  obtain ⟨v,c1⟩:=z2m A (R1:=t.inh.map za2) (R2:=t.syn.map za2) (by simpa using hb.1) (by simpa using hb.2)
  have e1:t.inh.map za2++t.syn.map za2=(t.inh++t.syn).map za2:=by simp
  rw [e1,Qf] at c1
  have c2:zxm 0 (.arr 0 v 0 (t.inh++t.syn).length) [some (.arr v 1 (((t.inh++t.syn).map za2).map ofDs))] [0]=some (.d (.l 1 ((t.inh++t.syn).map za2)),[]) :=
   zyt (by simp) (fun r hr=>by obtain ⟨s,_,rfl⟩:=List.mem_map.1 hr; simp [za2]) (by simp; omega)
  have c3:=zw6 A (l:=t.inh++t.syn) (by simp; omega)
  have z0:(0:Nat) ≤ 0:=Nat.le_refl 0
  refine zah ?_
  by_cases g4:((t.inh++t.syn).length:Int) > 4
  ·have hbad:zhz t=true:=by simp only [zhz,Ql g4,Bool.true_or]
   simp only [zab,simprocAttr,zaa,List.range'_one,z2n,zuf,eq_true hy,h0,ga,ofDs,Qb,Qc,Qf,r2,zfq,w,c1,c2,eq_true z0,eq_true g4,List.length_cons,List.length_nil]
   refine hQ1 (.inl hbad) _ _ ?_
   simp only [zab,simprocAttr,zaa,List.range'_one]
  ·cases hnm:zgq (t.inh++t.syn)
   ·have hbad:zhz t=true:=by simp only [zhz,hnm,Bool.not_false,Bool.or_true]
    rw [hnm] at c3
    simp only [zab,simprocAttr,zaa,List.range'_one,z2n,zuf,eq_true hy,h0,ga,ofDs,Qb,Qc,Qf,r2,zfq,w,c1,c2,c3,eq_true z0,g4,List.length_cons,List.length_nil]
    refine hQ1 (.inl hbad) _ _ ?_
    simp only [zab,simprocAttr,zaa,List.range'_one]
   ·have hgood:zhz t=false:=by simp only [zhz,hnm,decide_eq_false g4,Bool.not_true,Bool.or_self]
    rw [hnm] at c3
    simp only [zab,simprocAttr,zaa,List.range'_one,z2n,zuf,eq_true hy,h0,ga,ofDs,Qb,Qc,Qf,r2,zfq,w,c1,c2,c3,eq_true z0,g4,List.length_cons,List.length_nil]
    exact ⟨_,rfl,ih (i + 1) (out++[t.name]) (by omega) (by simp; omega) (fun h=>hQ1 (.inr h)) (fun h=>by simpa using hQ ⟨hgood,h⟩)⟩
def zh0 (g:Gram):Bool:=(decide (1 ≤ g.toks.length) && decide ((g.toks.length:Int) ≤ 8)) && ((decide (1 ≤ g.nts.length) && decide ((g.nts.length:Int) ≤ 8)) && ((decide (1 ≤ g.prods.length) && decide ((g.prods.length:Int) ≤ 16)) &&
 (!g.nts.any zhz && (zgq (g.toks.map GTok.name++g.nts.map GNt.name) && !g.prods.any fun p=>!zd5 g p))))
theorem Zag (A:AE E){g:Gram}(hg:g.Ok):lcall E 184 [g.arg] []=some (.d (.b (zh0 g)),[]):=by
 have ht:=hg.toks
 have hnt:=hg.nts
 have hpr:=hg.prods
 have c1:=zyq A (xs:=g.toks.map GTok.row) (by simp; omega) 8
 have c2:=zyr A (xs:=g.nts.map GNt.row) (by simp; omega) 8
 have c3:=zys A (xs:=g.prods.map GProd.row) (by simp; omega) 16
 rw [Qf] at c1 c2 c3
 have hc:∀ p ∈ g.prods,lcall E 204 (zm2 true p.row :: ofDs [.q g.cells 0]) []=some (.d (.b (!zd5 g p)),[]):=fun p hp=>by
  have c:=z6j A g (hg.prod p hp)
  show lcall E 204 [p.arg,.d (.q g.cells 0)] []=_
  refine zaq A.e204 ?_
  simp only [zab,simprocAttr,zaa,List.range'_one,Zjb,c,ofDs,Qb,Qc]
 have c5:=zg5 (E:=E) (key:=203) (ki:=221) (sz:=3) (ag:=true) A.e203 A.e221 (fun h=>by cases h) (l:=g.prods) (enc:=GProd.row) (p:=fun p=>!zd5 g p) (k:=204) (c:=[.q g.cells 0]) (by omega) (fun _ _=>rfl) hc
 refine zaq A.e184 ?_
 unfold zh0
 cases b1:(decide (1 ≤ g.toks.length) && decide ((g.toks.length:Int) ≤ 8))
 ·rw [b1] at c1
  simp only [zab,simprocAttr,zaa,List.range'_one,zuf,c1]
 rw [b1] at c1
 cases b2:(decide (1 ≤ g.nts.length) && decide ((g.nts.length:Int) ≤ 8))
 ·rw [b2] at c2
  simp only [zab,simprocAttr,zaa,List.range'_one,zuf,c1,c2]
 rw [b2] at c2
 cases b3:(decide (1 ≤ g.prods.length) && decide ((g.prods.length:Int) ≤ 16))
 ·rw [b3] at c3
  simp only [zab,simprocAttr,zaa,List.range'_one,zuf,c1,c2,c3]
 rw [b3] at c3
 simp only [zab,simprocAttr,zaa,List.range'_one,zuf,c1,c2,c3,Qf]
 have r0:([]:List (List D))=([]:List (List UInt8)).map za2:=rfl
 rw [r0]
 refine z2o ht g.toks.length 0 [] (by omega) (by simp) (fun tm h1 h3=>?_)
 simp only [zab,simprocAttr,zaa,List.range'_one,h1,h3,List.drop_zero,List.nil_append,Qf]
 refine z2p A hnt hg.nt g.nts.length 0 (g.toks.map GTok.name) (by omega) (by simp; omega) (fun hb tm hp h2=>?_) (fun hb tm h1 h3=>?_)
 ·rw [List.drop_zero] at hb
  simp only [zab,simprocAttr,zaa,List.range'_one,h2,hb]
 ·rw [List.drop_zero] at hb h3
  have c4:=zw6 A (l:=g.toks.map GTok.name++g.nts.map GNt.name) (by simp; omega)
  cases b4:zgq (g.toks.map GTok.name++g.nts.map GNt.name)
  ·rw [b4] at c4
   simp only [zab,simprocAttr,zaa,List.range'_one,h1,h3,hb,c4]
  ·rw [b4] at c4
   simp only [zab,simprocAttr,zaa,List.range'_one,h1,h3,hb,c4,c5]
open Go
def zd4 (x:Int × Int):List (Int × Int)→Nat
 | []=>0
 | y :: r=>if x=y then 0 else zd4 x r + 1
def kvP (x:Int × Int):List D × V:=([.i .i64 x.1,.i .i64 x.2],.d (.b true))
theorem z7q (a b c d:Int):zb8 [.i,.i] [.i .i64 a,.i .i64 b] [.i .i64 c,.i .i64 d]=some (decide ((a,b)=(c,d))):=by
 have h:zb8 [.i,.i] [.i .i64 a,.i .i64 b] [.i .i64 c,.i .i64 d]=some (a == c && (b == d && true)):=rfl
 rw [h]
 congr 1
 rw [Bool.eq_iff_iff]
 simp [Qj]
theorem zq9 (a b:Int):∀ (l:List (Int × Int)),zdb [.i,.i] [.i .i64 a,.i .i64 b] (l.map kvP)=some (zd4 (a,b) l)
 | []=>rfl
 | (c,d) :: r=>by
  have ih:=zq9 a b r
  simp only [Qb,kvP,zdb,zd4,z7q]
  by_cases e:(a,b)=(c,d)
  ·simp [e]
  ·have hb:decide ((a,b)=(c,d))=false:=by simpa using e
   rw [hb,if_neg e]
   have ih':zdb [.i,.i] [.i .i64 a,.i .i64 b] (List.map kvP r)=some (zd4 (a,b) r):=ih
   simp only [ih']
theorem zhk {x:Int × Int}:∀ {l:List (Int × Int)},x ∈ l→(l.map kvP)[zd4 x l]?=some (kvP x)
 | y :: r,h=>by
  simp only [zd4]
  by_cases e:x=y
  ·simp [e]
  ·rw [if_neg e]
   have:=zhk (l:=r) (by rcases List.mem_cons.1 h with h | h; exact absurd h e; exact h)
   simpa using this
theorem zf6 {x:Int × Int}:∀ {l:List (Int × Int)},x ∉ l→zd4 x l=l.length
 | [],_=>rfl
 | y :: r,h=>by
  simp only [zd4]
  rw [if_neg (fun e=>h (by rw [e]; exact List.mem_cons_self)),zf6 (fun hr=>h (List.mem_cons_of_mem _ hr))]
  rfl
theorem z2q {x:Int × Int}:∀ (l:List (Int × Int)),l.eraseIdx (zd4 x l)=l.erase x
 | []=>rfl
 | y :: r=>by
  simp only [zd4]
  by_cases e:x=y
  ·simp [e]
  ·rw [if_neg e,List.eraseIdx_cons_succ,z2q r,List.erase_cons_tail (by simpa using fun h=>e h.symm)]
theorem z2r (l:List (Int × Int))(n:Nat):(l.map kvP).eraseIdx n=(l.eraseIdx n).map kvP:=by
 induction l generalizing n with
 | nil=>rfl
 | cons x l ih=>cases n with | zero=>rfl | succ n=>simp only [Qb,List.eraseIdx_cons_succ,ih]
theorem z2s {x:Int × Int}{l:List (Int × Int)}:zsa (l.map kvP) [.i .i64 x.1,.i .i64 x.2] (.d (.b true)) l.length=(l++[x]).map kvP:=by
 unfold zsa
 rw [if_neg (by simp)]
 simp [kvP]
theorem zel (n:Nat):∀ (l:List (Int × Int)),zct n (l.map kvP)=true
 | []=>rfl
 | y :: r=>by
  have:=zel n r
  simp only [Qb,kvP,zct,V.under,Bool.true_and]
  exact this
theorem zgm (h:List (Option Obj))(l:List (Int × Int)):(l.map kvP).map (fun p=>(p.1,zdq h p.2))=l.map kvP:=by
 rw [List.map_map]; rfl
theorem zb2:∀ (l:List (Int × Int)),zfu (l.map kvP)=[]
 | []=>rfl
 | y :: r=>by
  have:=zb2 r
  simp only [Qb,kvP,zfu,V.refs,List.nil_append]
  exact this
theorem zcp (f sh:Nat→Nat):∀ (l:List (Int × Int)),zgp f sh (l.map kvP)=l.map kvP
 | []=>rfl
 | y :: r=>by
  have:=zcp f sh r
  simp only [Qb,kvP,zgp,V.ren]
  rw [show zgp f sh (List.map kvP r)=List.map kvP r from this]
def ze2 (g:Gram)(p:GProd)(x:Int × Int):Bool:=(zcn p x.1).2 && !inF g p x
def zem (g:Gram)(p:GProd)(at_:Int):Nat→Nat→List (Int × Int)
 | _,0=>[]
 | a,n + 1=>(if ze2 g p (at_,a) then [(at_,(a:Int))] else [])++zem g p at_ (a + 1) n
def zfr (g:Gram)(p:GProd):Nat→Nat→List (Int × Int)
 | _,0=>[]
 | at_,n + 1=>zem g p at_ 0 (za7 g (zcn p at_).1).toNat++zfr g p (at_ + 1) n
def zd6 (g:Gram)(p:GProd):List (Int × Int):=zfr g p 0 (p.right.length + 1)
theorem zhu {g:Gram}{p:GProd}{at_:Int}{x:Int × Int}:∀ {n a:Nat},x ∈ zem g p at_ a n→x.1=at_∧(a:Int) ≤ x.2∧x.2 < ((a + n:Nat):Int)∧ze2 g p x=true
 | 0,a,h=>by simp [zem] at h
 | n + 1,a,h=>by
  simp only [zem,List.mem_append] at h
  rcases h with h | h
  ·split at h
   ·rename_i hw
    simp only [List.mem_singleton] at h
    subst h
    exact ⟨rfl,by simp,by simp; omega,hw⟩
   ·simp at h
  ·obtain ⟨h1,h2,h3,h4⟩:=zhu h
   exact ⟨h1,by omega,by omega,h4⟩
def wIn:CCode:=match zy3.body with
 | .seq _ (.seq _ (.seq (.seq _ (.block _ (.loop _ (.seq _ (.seq _ (.seq (.block _ (.seq _ (.seq _ (.seq _ (.block _ (.loop _ c)))))) _)))))) _))=>c
 | _=>.skip
def Zjt:CCode:=match zy3.body with
 | .seq _ (.seq _ (.seq (.seq _ (.block _ (.loop _ c))) _))=>c
 | _=>.skip
abbrev bxG (g:Gram):Option Obj:=some (.box [.d (.l 3 (g.toks.map GTok.row)),.d (.l 3 (g.nts.map GNt.row)),.d (.l 3 (g.prods.map GProd.row))])
abbrev bxP (p:GProd):Option Obj:=some (.box [.d (.i .i64 p.left),.d (.l 2 (p.right.map GSym.row)),.d (.l 10 (p.rules.map GRule.row))])
theorem z6n (A:AE E){g:Gram}(hg:g.Ok){p:GProd}(hp:p.Ok){at_:Nat}{c:Nat}(hc:c ≤ 3000){t17:V}(h17:∃ n:Int,t17 = .d (.i .i64 n)){Q:Ex→St→Prop}:∀ (m a:Nat) (l:List (Int × Int)),a + m=c→(∀ x ∈ l,x.1 < (at_:Int) ∨ (x.1=(at_:Int)∧x.2 < (a:Int))) →
  (∀ tm,za1 tm 2 = .ptr 0 0→za1 tm 3 = .ptr 1 0→za1 tm 5 = .map 2→za1 tm 17=t17→za1 tm 18 = .d (.i .i64 at_)→Q (.exit 2) ⟨tm,[bxG g,bxP p,some (.map ((l++zem g p at_ a m).map kvP))]⟩) →
  LX E wIn ⟨[2,3,5,6,17,18,29,30],[],[],[],[],true⟩ 3 ⟨[(2,.ptr 0 0),(3,.ptr 1 0),(5,.map 2),(6,.d (.i .i64 at_)),(17,t17),(18,.d (.i .i64 at_)),(29,.d (.i .i64 c)),(30,.d (.i .i64 a))],[bxG g,bxP p,some (.map (l.map kvP))]⟩ Q:=by
 obtain ⟨t,rfl⟩:=h17
 intro m
 induction m with
 | zero =>
  intro a l hi hl hQ
  have hn:¬ ((a:Int) < (c:Int)):=by omega
  simp only [zem,List.append_nil] at hQ
  refine zah ?_
  simp only [zab,simprocAttr,zaa,List.range'_one,wIn,zy3,hn]
  exact hQ _ rfl rfl rfl rfl rfl
 | succ m ih =>
  intro a l hi hl hQ
  have hy:(a:Int) < (c:Int):=by omega
  have w:IntKind.i64.wrap ((a:Int) + 1)=((a + 1:Nat):Int):=by rw [zda (by omega) (by omega)]; omega
  have c1:=z2e A hp (at_:Int)
  have c2:=Ze1 A hg hp ((at_:Int),(a:Int))
  simp only [zem] at hQ
  have hno:((at_:Int),(a:Int)) ∉ l:=fun h=>by rcases hl _ h with h | ⟨_,h⟩ <;> omega
  have ma:=zq9 (at_:Int) (a:Int) l
  rw [zf6 hno] at ma
  have pp:=z2s (x:=((at_:Int),(a:Int))) (l:=l)
  have step:∀ b,ze2 g p ((at_:Int),(a:Int))=b→LX E wIn ⟨[2,3,5,6,17,18,29,30],[],[],[],[],true⟩ 3 ⟨[(2,.ptr 0 0),(3,.ptr 1 0),(5,.map 2),(6,.d (.i .i64 at_)),(17,.d (.i .i64 t)),(18,.d (.i .i64 at_)),(29,.d (.i .i64 c)),(30,.d (.i .i64 ((a + 1:Nat):Int)))],[bxG g,bxP p,some (.map ((l++if b then [((at_:Int),(a:Int))] else []).map kvP))]⟩ Q:=fun b hb=>by
   refine ih (a + 1) _ (by omega) (fun x hx=>?_) (fun tm h2 h3 h5 h17 h18=>?_)
   ·rcases List.mem_append.1 hx with hx | hx
    ·rcases hl _ hx with h | ⟨h1,h2⟩
     ·exact .inl h
     ·exact .inr ⟨h1,by omega⟩
    ·split at hx
     ·simp only [List.mem_singleton] at hx
      subst hx
      exact .inr ⟨rfl,by simp; omega⟩
     ·simp at hx
   ·have:=hQ tm h2 h3 h5 h17 h18
    rw [hb] at this
    rw [List.append_assoc]; exact this
  refine zah ?_
  cases ok:(zcn p (at_:Int)).2
  ·have hb:ze2 g p ((at_:Int),(a:Int))=false:=by simp only [ze2,ok,Bool.false_and]
   rw [ok] at c1
   simp only [zab,simprocAttr,zaa,List.range'_one,wIn,zy3,eq_true hy,c1,w,zel,zgm]
   have:=step false hb
   simp only [Qm,if_false,List.append_nil] at this
   exact ⟨_,rfl,this⟩
  ·rw [ok] at c1
   cases hin:inF g p ((at_:Int),(a:Int))
   ·have hb:ze2 g p ((at_:Int),(a:Int))=true:=by simp only [ze2,ok,hin,Bool.not_false,Bool.true_and]
    rw [hin] at c2
    simp only [zab,simprocAttr,zaa,List.range'_one,wIn,zy3,eq_true hy,c1,c2,w,ma,pp,zel,zgm,List.length_cons,List.length_nil]
    have:=step true hb
    simp only [if_true] at this
    exact ⟨_,rfl,this⟩
   ·have hb:ze2 g p ((at_:Int),(a:Int))=false:=by simp only [ze2,ok,hin,Bool.not_true,Bool.and_false]
    rw [hin] at c2
    simp only [zab,simprocAttr,zaa,List.range'_one,wIn,zy3,eq_true hy,c1,c2,w,zel,zgm]
    have:=step false hb
    simp only [Qm,if_false,List.append_nil] at this
    exact ⟨_,rfl,this⟩
theorem zra {g:Gram}{p:GProd}{x:Int × Int}:∀ {n at_:Nat},x ∈ zfr g p at_ n→(at_:Int) ≤ x.1∧x.1 < ((at_ + n:Nat):Int)∧0 ≤ x.2∧ze2 g p x=true
 | 0,at_,h=>by simp [zfr] at h
 | n + 1,at_,h=>by
  simp only [zfr,List.mem_append] at h
  rcases h with h | h
  ·obtain ⟨h1,h2,h3,h4⟩:=zhu h
   exact ⟨by omega,by omega,by omega,h4⟩
  ·obtain ⟨h1,h2,h3,h4⟩:=zra h
   exact ⟨by omega,by omega,h3,h4⟩
theorem zi9 {g:Gram}(hg:g.Ok)(i:Int):0 ≤ za7 g i∧za7 g i ≤ 2000:=by
 have:=ztb hg i
 unfold za7; omega
set_option maxHeartbeats 1000000 in
theorem z2t (A:AE E){g:Gram}(hg:g.Ok){p:GProd}(hp:p.Ok){c:Nat}(hc:c ≤ 3000){Q:Ex→St→Prop}:∀ (m i:Nat) (l:List (Int × Int)),i + m=c→(∀ x ∈ l,x.1 < (i:Int)) →
  (∀ tm,za1 tm 5 = .map 2→Q (.exit 0) ⟨tm,[bxG g,bxP p,some (.map ((l++zfr g p i m).map kvP))]⟩) →
  LX E Zjt ⟨[2,3,5,17,18],[],[],[],[],true⟩ 3 ⟨[(2,.ptr 0 0),(3,.ptr 1 0),(5,.map 2),(17,.d (.i .i64 c)),(18,.d (.i .i64 i))],[bxG g,bxP p,some (.map (l.map kvP))]⟩ Q:=by
 intro m
 induction m with
 | zero =>
  intro i l hi hl hQ
  have hn:¬ ((i:Int) < (c:Int)):=by omega
  simp only [zfr,List.append_nil] at hQ
  refine zah ?_
  simp only [zab,simprocAttr,zaa,List.range'_one,Zjt,zy3,hn]
  exact hQ _ rfl
 | succ m ih =>
  intro i l hi hl hQ
  have hy:(i:Int) < (c:Int):=by omega
  have w:IntKind.i64.wrap ((i:Int) + 1)=((i + 1:Nat):Int):=by rw [zda (by omega) (by omega)]; omega
  have c1:=z2e A hp (i:Int)
  have c2:=zw5 A hg (zcn p (i:Int)).1
  obtain ⟨b1,b2⟩:=zi9 hg (zcn p (i:Int)).1
  simp only [zfr] at hQ
  obtain ⟨k,hk⟩:∃ k:Nat,za7 g (zcn p (i:Int)).1=(k:Int):=⟨(za7 g (zcn p (i:Int)).1).toNat,by omega⟩
  rw [hk] at c2 hQ
  rw [Qk] at hQ
  refine zah ?_
  simp only [zab,simprocAttr,zaa,List.range'_one,Zjt,zy3,eq_true hy,c1,c2]
  have hin:=z6n A hg hp (at_:=i) (c:=k) (by omega) (t17:=.d (.i .i64 c)) ⟨_,rfl⟩ (Q:=zcw 2 (zcw 1 (zrx E (.region false [⟨some 53,.bin .add (.t 18) (.k (.d (.i .i64 1))),none,0⟩,⟨some 18,.mv (.t 53),none,0⟩]) (zaa E Zjt ⟨[2,3,5,17,18],[],[],[],[],true⟩ 3 Q)))) k 0 l (by omega) (fun x hx=>.inl (hl x hx)) (fun tm h2 h3 h5 h17 h18=>?_)
  ·exact hin
  ·simp only [zab,simprocAttr,zaa,List.range'_one,h2,h3,h5,h17,h18,w,zel,zgm]
   refine ⟨_,rfl,ih (i + 1) _ (by omega) (fun x hx=>?_) (fun tm h5=>?_)⟩
   ·rcases List.mem_append.1 hx with hx | hx
    ·have:=hl x hx; omega
    ·have:=(zhu hx).1; omega
   ·have:=hQ tm h5
    rw [List.append_assoc]; exact this
theorem z6o (A:AE E){g:Gram}(hg:g.Ok){p:GProd}(hp:p.Ok):lcall E 207 [g.arg,p.arg] []=some (.map 0,[some (.map ((zd6 g p).map kvP))]):=by
 have hr:=hp.right
 have w:IntKind.i64.wrap ((p.right.length:Int) + 1)=((p.right.length + 1:Nat):Int):=by rw [zda (by omega) (by omega)]; omega
 refine zaq A.e207 ?_
 simp only [zab,simprocAttr,zaa,List.range'_one,zy3,Qf,w]
 have h0:([]:List (List D × V))=([]:List (Int × Int)).map kvP:=rfl
 rw [h0]
 refine z2t A hg hp (by omega) (p.right.length + 1) 0 [] (by omega) (by simp) (fun tm h5=>?_)
 simp only [zab,simprocAttr,zaa,List.range'_one,h5,List.nil_append,zb2,zcp]
 rfl
open Go
theorem evF :
  (∀ (C:za0) (K:St→List Foot→Prop) (b d k n:Nat) (r:List CO) (j:Nat) (tm:List (Nat × V)) (hp:List (Option Obj)) (es:List Foot) (vs:List V),zxu C K b d k n r j tm hp es vs none=(((za5 vs).map (zbc hp)).all Option.isSome=true∧go C K b r j ((d,.fn k (vs.take n) (vs.drop n)) :: tm) (zar hp (za5 vs) ((za5 vs).map (zbc hp))) (⟨za5 vs,true,b + j,0⟩ :: es))) ∧
  (∀ (k i o:Nat) (r:List V),V.toD (.fn k [] (.ptr i o :: r))=none)∧(∀ (i:Nat),V.toD (.map i)=none) ∧
  (∀ (r:Option (List D)),z84 none r=none) ∧
  (∀ (off:Nat) (o:Obj) (y:Option (List D × List (Option Obj))),Zdc off o none y=none) ∧
  (∀ (hp:List (Option Obj)) (id off:Nat) (vs:List V) (ds:List D),z65 id off vs hp (some (.cst ds))=match zrc vs hp with | some (c,os)=>some (.q ds off :: c,some (.cst ds) :: os) | none=>none):=by
 refine ⟨?_, ?_, ?_, ?_, ?_, ?_⟩
 ·intros; rfl
 ·intro k i o r; simp [V.toD,V.toDs]
 ·intro i; rfl
 ·intro r; cases r <;> rfl
 ·intros; rfl
 ·intros; rfl
abbrev GRule.at_ (r:GRule):Int × Int:=(r.occ,r.attr)
def ztf (mv:GVal→Bool)(g:Gram)(p:GProd)(l:List (Int × Int))(r:GRule):Bool:=decide (r.at_ ∈ l) && (zk3 mv r.e 12 && zew p r.e)
def zfz (mv:GVal→Bool)(g:Gram)(p:GProd)(l:List (Int × Int))(r:GRule):Bool:=ztf mv g p l r && !(zbo r.e).any fun x=>!inF g p x
def bxF (fr:Bool)(ds:List D):Option Obj:=if fr then some (.cst ds) else some (.box (ofDs ds))
abbrev hp4 (fr:Bool)(g:Gram)(p:GProd)(l:List (Int × Int)):List (Option Obj):=[some (.box [.map 3]),bxF fr p.cells,bxF fr g.cells,some (.map (l.map kvP))]
structure GRule.Ok (P:GVal→Prop)(r:GRule):Prop where
 e:AllV P r.e
 refs:(zbo r.e).length ≤ 1000000
theorem Zah (A:AE E){mv:GVal→Bool}{P:GVal→Prop}(hv:∀ v,P v→lcall E 111 [v.arg] []=some (.d (.b (mv v)),[])){g:Gram}(hg:g.Ok){p:GProd}(hp:p.Ok){r:GRule}(hr:r.Ok P)(l:List (Int × Int))(fr:Bool) :
  lcall E 209 [r.arg,.ptr 0 0,.ptr 1 0,.ptr 2 0] (hp4 fr g p l)=some (.d (.b (zfz mv g p l r)),hp4 (fr || ztf mv g p l r) g p (l.erase r.at_)):=by
 have c1:=Ze4 A hv hr.e
 have c2:=z6h A hp (sizeOf r.e + 1) r.e (by omega) hr.e
 have c3:=z2g A (sizeOf r.e + 1) r.e (by omega) hr.e hr.refs
 have c4:=fun x=>Ze2 A hg hp x
 have ce:lcall E 212 [.d (.l 2 ((zbo r.e).map zaz)),.d (.f 213 [] [.q g.cells 0,.q p.cells 0])] []=some (.d (.b (!(zbo r.e).any fun x=>!inF g p x)),[]):=by
  have hc:∀ x ∈ zbo r.e,lcall E 232 (zm2 true (zaz x) :: ofDs [.q [.f 213 [] [.q g.cells 0,.q p.cells 0]] 0]) []=some (.d (.b (!inF g p x)),[]):=fun x _=>by
   have c:=c4 x
   show lcall E 232 [zuy x.1 x.2,.d (.q [.f 213 [] [.q g.cells 0,.q p.cells 0]] 0)] []=_
   refine zaq A.e232 ?_
   simp only [zab,simprocAttr,zaa,List.range'_one,Zjm,c,ofDs,Qb,Qc,List.nil_append,List.cons_append]
  have cc:=zg5 (E:=E) (key:=231) (ki:=240) (sz:=2) (ag:=true) A.e231 A.e240 (fun h=>by cases h) (l:=zbo r.e) (enc:=zaz) (p:=fun x=>!inF g p x) (k:=232) (c:=[.q [.f 213 [] [.q g.cells 0,.q p.cells 0]] 0]) hr.refs (fun _ _=>rfl) hc
  refine zaq A.e212 ?_
  simp only [zab,simprocAttr,zaa,List.range'_one,Zjf,cc,ofDs,Qb,Qc]
 have ma:=zq9 r.occ r.attr l
 have er:=z2r l (zd4 r.at_ l)
 rw [z2q] at er
 have pk:lkB false (.d (.b false)) (l.map kvP) (some (zd4 r.at_ l))=some (.d (.b (decide (r.at_ ∈ l)))):=by
  by_cases h:r.at_ ∈ l
  ·simp only [lkB,zhk h,got,kvP,h,decide_true]; rfl
  ·have:(l.map kvP)[zd4 r.at_ l]?=none:=Qe (by rw [zf6 h]; simp)
   simp only [lkB,this,got,h,decide_false]; rfl
 refine zaq A.e209 ?_
 unfold zfz ztf
 cases fr
 ·cases b1:decide (r.at_ ∈ l)
  ·rw [b1] at pk
   simp only [zab,simprocAttr,zaa,List.range'_one,z01,ma,pk,er,bxF,ofDs,Qb,Qc,zb2,zcp,List.length_cons,List.length_nil]
   rfl
  rw [b1] at pk
  cases b2:zk3 mv r.e 12
  ·rw [b2] at c1
   simp only [zab,simprocAttr,zaa,List.range'_one,z01,ma,pk,er,c1,bxF,ofDs,Qb,Qc,zb2,zcp,List.length_cons,List.length_nil]
   rfl
  rw [b2] at c1
  cases b3:zew p r.e
  ·rw [b3] at c2
   simp only [zab,simprocAttr,zaa,List.range'_one,z01,ma,pk,er,c1,c2,bxF,ofDs,Qb,Qc,zb2,zcp,List.length_cons,List.length_nil]
   rfl
  rw [b3] at c2
  simp only [zab,simprocAttr,zaa,List.range'_one,z01,ma,pk,er,c1,c2,c3,ce,bxF,ofDs,Qb,Qc,zb2,zcp,List.length_cons,List.length_nil]
  rfl
 ·cases b1:decide (r.at_ ∈ l)
  ·rw [b1] at pk
   simp only [zab,simprocAttr,zaa,List.range'_one,z01,ma,pk,er,bxF,ofDs,Qb,Qc,zb2,zcp,List.length_cons,List.length_nil]
   rfl
  rw [b1] at pk
  cases b2:zk3 mv r.e 12
  ·rw [b2] at c1
   simp only [zab,simprocAttr,zaa,List.range'_one,z01,ma,pk,er,c1,bxF,ofDs,Qb,Qc,zb2,zcp,List.length_cons,List.length_nil]
   rfl
  rw [b2] at c1
  cases b3:zew p r.e
  ·rw [b3] at c2
   simp only [zab,simprocAttr,zaa,List.range'_one,z01,ma,pk,er,c1,c2,bxF,ofDs,Qb,Qc,zb2,zcp,List.length_cons,List.length_nil]
   rfl
  rw [b3] at c2
  simp only [zab,simprocAttr,zaa,List.range'_one,z01,evF,ma,pk,er,c1,c2,c3,ce,bxF,ofDs,Qb,Qc,zb2,zcp,List.length_cons,List.length_nil]
  rfl
open Go
abbrev hp5 (fr:Bool)(g:Gram)(p:GProd)(l:List (Int × Int)):List (Option Obj):=[some (.box [.fn 209 [] [.ptr 1 0,.ptr 2 0,.ptr 3 0]]),some (.box [.map 4]),bxF fr p.cells,bxF fr g.cells,some (.map (l.map kvP))]
theorem zyu (A:AE E){mv:GVal→Bool}{P:GVal→Prop}(hv:∀ v,P v→lcall E 111 [v.arg] []=some (.d (.b (mv v)),[])){g:Gram}(hg:g.Ok){p:GProd}(hp:p.Ok){r:GRule}(hr:r.Ok P)(l:List (Int × Int))(fr:Bool) :
  lcall E 227 [r.arg,.ptr 0 0] (hp5 fr g p l)=some (.d (.b (!zfz mv g p l r)),hp5 (fr || ztf mv g p l r) g p (l.erase r.at_)):=by
 have c1:=Zah A hv hg hp hr l fr
 generalize zfz mv g p l r=b1 at *
 generalize ztf mv g p l r=b2 at *
 refine zaq A.e227 ?_
 cases fr <;> cases b2 <;> simp only [hp4,hp5,bxF,ofDs,Qb,Qc,Bool.or_false,Bool.or_true,Bool.false_or,Bool.true_or,Qm,if_false,if_true] at c1 ⊢
 all_goals
  simp only [zab,simprocAttr,zaa,List.range'_one,Zjk,c1,zb2,zcp]
def zcf (mv:GVal→Bool)(g:Gram)(p:GProd):List GRule→List (Int × Int)→Bool × List (Int × Int)
 | [],l=>(true,l)
 | r :: rs,l=>if zfz mv g p l r then zcf mv g p rs (l.erase r.at_) else (false,l.erase r.at_)
def zw7:CCode:=match z29.body with
 | .seq _ (.seq (.seq _ (.block _ (.loop _ c))) _)=>c
 | _=>.skip
theorem zyv (A:AE E){mv:GVal→Bool}{P:GVal→Prop}(hv:∀ v,P v→lcall E 111 [v.arg] []=some (.d (.b (mv v)),[])){g:Gram}(hg:g.Ok){p:GProd}(hp:p.Ok){rs:List GRule}(hl:rs.length ≤ 1000)(hr:∀ r ∈ rs,r.Ok P){Q:Ex→St→Prop}{l0:List (Int × Int)}
  (hno:∀ tm fr,(zcf mv g p rs l0).1=true→Q (.exit 0) ⟨tm,hp5 fr g p (zcf mv g p rs l0).2⟩) (hyes:∀ tm fr (j:Nat),(zcf mv g p rs l0).1=false→za1 tm 4 = .d (.i .i64 j)→Q .ret ⟨tm,hp5 fr g p (zcf mv g p rs l0).2++[none,none,none,none]⟩) :
  ∀ (m i:Nat) (l:List (Int × Int)) (fr:Bool),i + m=rs.length→zcf mv g p rs l0=zcf mv g p (rs.drop i) l →
   LX E zw7 ⟨[0,1,7,8],[],[],[],[],true⟩ 5 ⟨[(0,.d (.l 10 (rs.map GRule.row))),(1,.fn 227 [] [.ptr 0 0]),(7,.d (.i .i64 rs.length)),(8,.d (.i .i64 i))],hp5 fr g p l⟩ Q:=by
 intro m
 induction m with
 | zero =>
  intro i l fr hi he
  have hn:¬ ((i:Int) < rs.length):=by omega
  rw [List.drop_eq_nil_of_le (by omega)] at he
  simp only [zcf] at he
  rw [he] at hno
  refine zah ?_
  cases fr
  all_goals
   simp only [hp5,bxF,ofDs,Qb,Qc,Qm,if_false,if_true]
   simp only [zab,simprocAttr,zaa,List.range'_one,zw7,z29,hn]
  ·exact hno _ false rfl
  ·exact hno _ true rfl
 | succ m ih =>
  intro i l fr hi he
  have hy:(i:Int) < rs.length:=by omega
  have la:i < rs.length:=by omega
  have h0:(0:Int) ≤ i:=by omega
  have ga:(rs.map GRule.row)[i]?=some (GRule.row rs[i]):=by rw [List.getElem?_map,Qd la]; rfl
  have w:IntKind.i64.wrap ((i:Int) + 1)=((i + 1:Nat):Int):=by rw [zda (by omega) (by omega)]; omega
  have hm:=List.getElem_mem la
  have c1:=zyu A hv hg hp (hr _ hm) l fr
  rw [List.drop_eq_getElem_cons la] at he
  simp only [zcf] at he
  generalize rs[i]=x at *
  generalize ztf mv g p l x=b2 at *
  cases hpx:zfz mv g p l x with
  | false =>
   rw [hpx] at he c1
   rw [if_neg (by simp)] at he
   rw [he] at hyes
   refine zah ?_
   cases fr <;> cases b2 <;> simp only [hp4,hp5,bxF,ofDs,Qb,Qc,Bool.or_false,Bool.or_true,Bool.false_or,Bool.true_or,Qm,if_false,if_true,Bool.not_false] at c1 ⊢
   all_goals
    simp only [zab,simprocAttr,zaa,List.range'_one,zw7,z29,eq_true hy,h0,ga,GRule.row,c1,zb2,zcp]
    first | refine hyes _ false i rfl ?_ | refine hyes _ true i rfl ?_
    simp only [zab,simprocAttr,zaa,List.range'_one]
  | true =>
   rw [hpx,if_pos rfl] at he
   rw [hpx] at c1
   have ih':=fun fr=>ih (i + 1) (l.erase x.at_) fr (by omega) he
   refine zah ?_
   cases fr <;> cases b2 <;> simp only [hp4,hp5,bxF,ofDs,Qb,Qc,Bool.or_false,Bool.or_true,Bool.false_or,Bool.true_or,Qm,if_false,if_true,Bool.not_true] at c1 ⊢
   all_goals
    simp only [zab,simprocAttr,zaa,List.range'_one,zw7,z29,eq_true hy,h0,ga,GRule.row,c1,w,zb2,zcp,zel,zgm]
    first | exact ⟨_,rfl,ih' false⟩ | exact ⟨_,rfl,ih' true⟩
def RuQ (b:Bool)(g:Gram)(p:GProd)(l:List (Int × Int))(x:V × List (Option Obj)):Prop:=∃ fr,∃ j:Int,decide (j ≥ 0) = !b∧x=(.d (.i .i64 j),hp5 fr g p l)
theorem zu2 (A:AE E){mv:GVal→Bool}{P:GVal→Prop}(hv:∀ v,P v→lcall E 111 [v.arg] []=some (.d (.b (mv v)),[])){g:Gram}(hg:g.Ok){p:GProd}(hp:p.Ok){rs:List GRule}(hl:rs.length ≤ 1000)(hr:∀ r ∈ rs,r.Ok P)(l:List (Int × Int)) :
  ∃ fr,∃ j:Int,decide (j ≥ 0) = !(zcf mv g p rs l).1∧lcall E 235 [.d (.l 10 (rs.map GRule.row)),.fn 227 [] [.ptr 0 0]] (hp5 false g p l)=some (.d (.i .i64 j),hp5 fr g p (zcf mv g p rs l).2):=by
 have hw:=zud (E:=E) (key:=235) (args:=[.d (.l 10 (rs.map GRule.row)),.fn 227 [] [.ptr 0 0]]) (hp:=hp5 false g p l) (R:=RuQ (zcf mv g p rs l).1 g p (zcf mv g p rs l).2) A.e235 ?_
 ·obtain ⟨x,hx,fr,j,h1,rfl⟩:=hw
  exact ⟨fr,j,h1,hx⟩
 ·simp only [hp5,bxF,ofDs,Qb,Qc,Qm,if_false,if_true]
  simp only [zab,simprocAttr,zaa,List.range'_one,z29,Qf]
  refine zyv A hv hg hp hl hr (l0:=l) (fun tm fr h=>?_) (fun tm fr j h h4=>?_) rs.length 0 l false (by omega) rfl
  ·cases fr
   all_goals
    simp only [hp5,bxF,ofDs,Qb,Qc,Qm,if_false,if_true]
    simp only [zab,simprocAttr,zaa,List.range'_one,z29,zb2,zcp]
    first | exact ⟨false, -1,by rw [h]; rfl,rfl⟩ | exact ⟨true, -1,by rw [h]; rfl,rfl⟩
  ·cases fr
   all_goals
    simp only [hp5,bxF,ofDs,Qb,Qc,Qm,if_false,if_true,List.cons_append,List.nil_append]
    simp only [zab,simprocAttr,zaa,List.range'_one,z29,h4,zb2,zcp]
    first | exact ⟨false,j,by rw [h]; simp,rfl⟩ | exact ⟨true,j,by rw [h]; simp,rfl⟩
theorem z2u (A:AE E){mv:GVal→Bool}{P:GVal→Prop}(hv:∀ v,P v→lcall E 111 [v.arg] []=some (.d (.b (mv v)),[])){g:Gram}(hg:g.Ok){p:GProd}(hp:p.Ok){rs:List GRule}(hl:rs.length ≤ 1000)(hr:∀ r ∈ rs,r.Ok P)(l:List (Int × Int)) :
  ∃ fr,lcall E 226 [.d (.l 10 (rs.map GRule.row)),.fn 227 [] [.ptr 0 0]] (hp5 false g p l)=some (.d (.b (!(zcf mv g p rs l).1)),hp5 fr g p (zcf mv g p rs l).2):=by
 obtain ⟨fr,j,hj,c1⟩:=zu2 A hv hg hp hl hr l
 refine ⟨fr, ?_⟩
 rw [← hj]
 refine zaq A.e226 ?_
 cases fr
 all_goals
  simp only [hp5,bxF,ofDs,Qb,Qc,Qm,if_false,if_true] at c1 ⊢
  simp only [zab,simprocAttr,zaa,List.range'_one,Zjj,c1,zb2,zcp]
theorem z6p (A:AE E){mv:GVal→Bool}{P:GVal→Prop}(hv:∀ v,P v→lcall E 111 [v.arg] []=some (.d (.b (mv v)),[])){g:Gram}(hg:g.Ok){p:GProd}(hp:p.Ok){rs:List GRule}(hl:rs.length ≤ 1000)(hr:∀ r ∈ rs,r.Ok P)(l:List (Int × Int)) :
  ∃ fr,lcall E 208 [.d (.l 10 (rs.map GRule.row)),.fn 209 [] [.ptr 0 0,.ptr 1 0,.ptr 2 0]] (hp4 false g p l)=some (.d (.b (zcf mv g p rs l).1),hp4 fr g p (zcf mv g p rs l).2):=by
 obtain ⟨fr,c1⟩:=z2u A hv hg hp hl hr l
 refine ⟨fr, ?_⟩
 refine zaq A.e208 ?_
 cases fr
 all_goals
  simp only [hp4,hp5,bxF,ofDs,Qb,Qc,Qm,if_false,if_true] at c1 ⊢
  simp only [zab,simprocAttr,zaa,List.range'_one,Zjd,evF,List.all_cons,List.all_nil,Option.isSome_some,c1,zb2,zcp,Bool.not_not]
def zk5 (mv:GVal→Bool)(g:Gram)(p:GProd):Bool:=(zcf mv g p p.rules (zd6 g p)).1 && (zcf mv g p p.rules (zd6 g p)).2.isEmpty
theorem Zai (A:AE E){mv:GVal→Bool}{P:GVal→Prop}(hv:∀ v,P v→lcall E 111 [v.arg] []=some (.d (.b (mv v)),[])){g:Gram}(hg:g.Ok){p:GProd}(hp:p.Ok)(hr:∀ r ∈ p.rules,r.Ok P) :
  lcall E 187 [g.arg,p.arg] []=some (.d (.b (zk5 mv g p)),[]):=by
 obtain ⟨fr,c1⟩:=z6p A hv hg hp hp.rules hr (zd6 g p)
 have c2:=z6o A hg hp
 unfold zk5
 generalize (zcf mv g p p.rules (zd6 g p)).1=b at *
 generalize (zcf mv g p p.rules (zd6 g p)).2=l at *
 refine zaq A.e187 ?_
 cases fr <;> cases b
 all_goals
  simp only [hp4,bxF,ofDs,Qb,Qc,Qm,if_false,if_true] at c1
  simp only [zab,simprocAttr,zaa,List.range'_one,Zi9,evF,List.all_cons,List.all_nil,Option.isSome_some,c1,c2,zb2,zcp]
 all_goals (cases l <;> simp; try omega)
open Go
structure GProd.Good (P:GVal→Prop)(p:GProd):Prop where
 ok:p.Ok
 rules:∀ r ∈ p.rules,r.Ok P
def zlq (g:Gram):Bool:=match g.nts with | n :: _=>n.inh.isEmpty | []=>false
def ztg (mv:GVal→Bool)(g:Gram):Bool:=zh0 g && (zlq g && !g.prods.any fun p=>!zk5 mv g p)
theorem z6q {g:Gram}(h:zh0 g=true):∃ n r,g.nts=n :: r:=by
 cases hn:g.nts with
 | nil=>simp [zh0,hn] at h
 | cons n r=>exact ⟨n,r,rfl⟩
theorem zu3 (A:AE E){mv:GVal→Bool}{P:GVal→Prop}(hv:∀ v,P v→lcall E 111 [v.arg] []=some (.d (.b (mv v)),[])){g:Gram}(hg:g.Ok)(hp:∀ p ∈ g.prods,p.Good P) :
  lcall E 169 [g.arg] []=some (.d (.b (ztg mv g)),[]):=by
 have c1:=Zag A hg
 have hc1:∀ p ∈ g.prods,lcall E 186 [p.arg,.d (.q g.cells 0)] []=some (.d (.b (zk5 mv g p)),[]):=fun p h=>by
  have c:=Zai A hv hg (hp p h).ok (hp p h).rules
  refine zaq A.e186 ?_
  simp only [zab,simprocAttr,zaa,List.range'_one,Zi8,c,ofDs,Qb,Qc]
 have hc:∀ p ∈ g.prods,lcall E 206 (zm2 true p.row :: ofDs [.q [.f 186 [] [.q g.cells 0]] 0]) []=some (.d (.b (!zk5 mv g p)),[]):=fun p h=>by
  have c:=hc1 p h
  show lcall E 206 [p.arg,.d (.q [.f 186 [] [.q g.cells 0]] 0)] []=_
  refine zaq A.e206 ?_
  simp only [zab,simprocAttr,zaa,List.range'_one,Zjc,c,ofDs,Qb,Qc]
 have c5:=zg5 (E:=E) (key:=203) (ki:=221) (sz:=3) (ag:=true) A.e203 A.e221 (fun h=>by cases h) (l:=g.prods) (enc:=GProd.row) (p:=fun p=>!zk5 mv g p) (k:=206) (c:=[.q [.f 186 [] [.q g.cells 0]] 0]) (by have:=hg.prods; omega) (fun _ _=>rfl) hc
 have c6:lcall E 185 [.d (.l 3 (g.prods.map GProd.row)),.d (.f 186 [] [.q g.cells 0])] []=some (.d (.b (!g.prods.any fun p=>!zk5 mv g p)),[]):=by
  refine zaq A.e185 ?_
  simp only [zab,simprocAttr,zaa,List.range'_one,Zi7,c5,ofDs,Qb,Qc]
 refine zaq A.e169 ?_
 unfold ztg
 cases b1:zh0 g
 ·rw [b1] at c1
  simp only [zab,simprocAttr,zaa,List.range'_one,Za1,c1]
 obtain ⟨n,r,hn⟩:=z6q b1
 rw [b1] at c1
 have ga:(g.nts.map GNt.row)[0]?=some [.s n.name,.l 1 (n.inh.map za2),.l 1 (n.syn.map za2)]:=by rw [hn]; rfl
 have z0:(0:Int) ≤ 0:=Int.le_refl 0
 have sf:zlq g=n.inh.isEmpty:=by simp only [zlq,hn]
 rw [sf]
 cases hi:n.inh with
 | nil =>
  rw [hi] at ga
  simp only [zab,simprocAttr,zaa,List.range'_one,Za1,c1,c6,ga,eq_true z0,ofDs,Qb,Qc,List.length_nil,List.isEmpty_nil]
 | cons a b =>
  rw [hi] at ga
  have h0:¬ (((b.length + 1:Nat):Int)=0):=by omega
  simp only [zab,simprocAttr,zaa,List.range'_one,Za1,c1,c6,ga,eq_true z0,ofDs,Qb,Qc,List.length_cons,Qf,List.isEmpty_cons,h0]
open Go
abbrev pk (l:List UInt8)(n:Nat):Option Obj:=some (.box [.d (.l 1 (zdu l)),.d (.i .i64 n)])
theorem Zaj (A:PE E)(l:List UInt8):lcall E 108 [.d (.l 1 (zdu l))] []=some (.ptr 0 0,[pk l 0]):=by
 refine zaq A.e108 ?_
 simp only [zab,simprocAttr,zaa,List.range'_one,Zi1]
 rfl
theorem zfe (A:PE E){l:List UInt8}(hl:l.length ≤ 1000){n:Nat}(hn:n ≤ l.length){m:Int}(h0:0 < m)(h1:m ≤ 1000) :
  ∃ r n':Nat,(r:Int) < m∧n' ≤ l.length∧lcall E 123 [.ptr 0 0,.d (.i .i64 m)] [pk l n]=some (.d (.i .i64 r),[pk l n']):=by
 have hb:=zh4 l
 by_cases he:n=l.length
 ·refine ⟨0,n,by omega,hn, ?_⟩
  have g:(n:Int) ≥ l.length:=by omega
  refine zaq A.e123 ?_
  simp only [zab,simprocAttr,zaa,List.range'_one,Zdw,hb,eq_true g]
  rfl
 ·have la:n < l.length:=by omega
  have g:¬ (n:Int) ≥ l.length:=by omega
  have w:IntKind.i64.wrap ((n:Int) + 1)=((n + 1:Nat):Int):=by rw [zda (by omega) (by omega)]; omega
  have w2:IntKind.i64.wrap (((n + 1:Nat):Int) - 1)=(n:Int):=by rw [zda (by omega) (by omega)]; omega
  have ga:(zdu l)[n]?=some [.i .u8 l[n].toNat]:=by rw [zue,Qd la]; rfl
  have hx:l[n].toNat < 256:=l[n].toBitVec.isLt
  generalize l[n].toNat=x at *
  have w3:IntKind.i64.wrap (x:Int)=x:=zda (by omega) (by omega)
  have m0:m ≠ 0:=by omega
  have h2:=Int.tmod_lt_of_pos (x:Int) h0
  have h3:=Int.tmod_nonneg m (a:=(x:Int)) (by omega)
  obtain ⟨r,hr⟩:∃ r:Nat,Int.tmod (x:Int) m=(r:Int):=⟨(Int.tmod (x:Int) m).toNat,by omega⟩
  have z0:(0:Int) ≤ n:=by omega
  refine ⟨r,n + 1,by omega,by omega, ?_⟩
  refine zaq A.e123 ?_
  simp only [zab,simprocAttr,zaa,List.range'_one,Zdw,hb,g,w,w2,ga,w3,m0,hr,eq_true z0]
  exact ⟨by rfl,rfl⟩
theorem zn6 (A:PE E){g:Gram}(hg:g.Ok)(i:Int):lcall E 173 [g.arg,.d (.i .i64 i)] []=some (.d (.i .i64 (za7 g i)),[]):=by
 have hb:=ztb hg i
 have w:IntKind.i64.wrap (((ntA g i).inh.length:Int) + ((ntA g i).syn.length:Int))=za7 g i:=by unfold za7; exact zda (by omega) (by omega)
 have hl:=hg.nts
 refine zaq A.e173 ?_
 by_cases h0:i < 0
 ·have:za7 g i=0:=by simp [za7,ntA,zy7,show ¬ 0 ≤ i by omega]
  rw [this]
  simp only [zab,simprocAttr,zaa,List.range'_one,Za2,eq_true h0]
 ·by_cases h1:i ≥ (g.nts.length:Int)
  ·have:za7 g i=0:=by
    have e:g.nts[i.toNat]?=none:=Qe (by omega)
    simp [za7,ntA,zy7,e]
   rw [this]
   simp only [zab,simprocAttr,zaa,List.range'_one,Za2,h0,Qf,eq_true h1]
  ·obtain ⟨x,hx,_⟩:=zkd (l:=g.nts) (i:=i) (by omega) (by omega)
   have e:ntA g i=x:=by simp [ntA,hx,show 0 ≤ i by omega]
   have ga:(g.nts.map GNt.row)[i.toNat]?=some [.s x.name,.l 1 (x.inh.map za2),.l 1 (x.syn.map za2)]:=by rw [List.getElem?_map,hx]; rfl
   have z:0 ≤ i:=by omega
   rw [e] at w
   simp only [zab,simprocAttr,zaa,List.range'_one,Za2,h0,Qf,h1,ga,eq_true z,w]
   rfl
theorem zth (A:PE E){g:Gram}(hg:g.Ok)(i a:Int):lcall E 174 [g.arg,.d (.i .i64 i),.d (.i .i64 a)] []=some (.d (.b (zdf g i a)),[]):=by
 refine zaq A.e174 ?_
 by_cases h0:i ≥ 0
 ·by_cases h1:i < (g.nts.length:Int)
  ·obtain ⟨x,hx,_⟩:=zkd (l:=g.nts) (i:=i) (by omega) (by omega)
   have e:ntA g i=x:=by simp [ntA,hx,show 0 ≤ i by omega]
   have ga:(g.nts.map GNt.row)[i.toNat]?=some [.s x.name,.l 1 (x.inh.map za2),.l 1 (x.syn.map za2)]:=by rw [List.getElem?_map,hx]; rfl
   have z:0 ≤ i:=by omega
   unfold zdf
   rw [e]
   by_cases h2:a ≥ 0
   ·have h2':0 ≤ a:=h2
    simp only [zab,simprocAttr,zaa,List.range'_one,z9k,eq_true h0,Qf,eq_true h1,ga,eq_true z,eq_true h2,Ql h2']
   ·have h2':¬ 0 ≤ a:=h2
    simp only [zab,simprocAttr,zaa,List.range'_one,z9k,eq_true h0,Qf,eq_true h1,ga,eq_true z,h2,decide_eq_false h2']
  ·have:zdf g i a=false:=by
    have e:g.nts[i.toNat]?=none:=Qe (by omega)
    simp [zdf,ntA,zy7,e]
   rw [this]
   simp only [zab,simprocAttr,zaa,List.range'_one,z9k,eq_true h0,Qf,h1]
 ·have:zdf g i a=false:=by
   simp [zdf,ntA,zy7,show ¬ 0 ≤ i by omega]
  rw [this]
  simp only [zab,simprocAttr,zaa,List.range'_one,z9k,h0]
def z2v (x:Int):Exp:=.mk 0 (.mk 1 x [] []) 0 0 []
def z2w (o a:Int):Exp:=.mk 1 (.mk 0 0 [] []) o a []
def zlu (o:Int):Exp:=.mk 2 (.mk 0 0 [] []) o 0 []
theorem Ze7 (A:PE E)(x:Int):lcall E 188 [.agg [.d (.i .i64 1),.d (.i .i64 x),.d (.s []),.nil 4]] []=some ((z2v x).arg,[]):=by
 refine zaq A.e188 ?_
 simp only [zab,simprocAttr,zaa,List.range'_one,Zdy]
 rfl
theorem Ze8 (A:PE E)(o a:Int):lcall E 189 [.d (.i .i64 o),.d (.i .i64 a)] []=some ((z2w o a).arg,[]):=by
 refine zaq A.e189 ?_
 simp only [zab,simprocAttr,zaa,List.range'_one,Zja]
 rfl
open Go
def rL0:CCode:=match zrd.body with
 | .seq _ (.seq _ (.seq _ (.seq (.seq _ (.block _ (.loop _ c))) _)))=>c
 | _=>.skip
def rL2:CCode:=match rL0 with
 | .seq _ (.seq (.block _ (.seq _ (.seq _ (.seq _ (.block _ (.loop _ c)))))) _)=>c
 | _=>.skip
inductive InOk (g:Gram) (p:GProd):Exp→Prop
 | ref (o a:Int):inF g p (o,a)=true→InOk g p (z2w o a)
 | text (o:Int):zbw p 2 o=false→InOk g p (zlu o)
abbrev zy8 (x:Int × Int):List V:=[.d (.i .i64 x.1),.d (.i .i64 x.2),.d (.i .i64 0),.d (.i .i64 0),.d (.i .i64 0),.d (.s []),.nil 4,.d (.i .i64 0),.d (.i .i64 0),.nil 8]
abbrev hpR (l:List UInt8)(n:Nat)(g:Gram)(p:GProd)(outs:List (Int × Int)):List (Option Obj):=[pk l n,bxG g,bxP p,some (.tok 0 8),some (.arr outs.length 10 (outs.map zy8))]
def Ze9 (sz ver off len:Nat):Option Obj→Option (List (List V))
 | some (.arr ver' sz' xs)=>if ver=ver'∧sz'=sz∧off + len ≤ xs.length then some ((xs.drop off).take len) else none
 | _=>none
theorem evB :
  (∀ (sz n:Nat) (z:List D) (m:List (Nat × A)),Cop.nmk (.bsa sz n z m)=1) ∧
  (∀ (sz:Nat) (hp:List (Option Obj)) (id ver off len:Nat),z89 sz hp (.arr id ver off len)=Ze9 sz ver off len (zbc hp id)) ∧
  (∀ (sz ver off len ver' sz':Nat) (xs:List (List V)),Ze9 sz ver off len (some (.arr ver' sz' xs))=if ver=ver'∧sz'=sz∧off + len ≤ xs.length then some ((xs.drop off).take len) else none) ∧
  (∀ (i id ver off len:Nat),V.other i (.arr id ver off len)=decide (id ≠ i)) ∧
  (∀ (id ver off len:Nat),zbv (.arr id ver off len)=[id]) ∧
  (∀ (a:List V),([a]:List (List V)).take 1=[a]):=by
 refine ⟨fun _ _ _ _=>rfl, ?_,fun _ _ _ _ _ _ _=>rfl,fun _ _ _ _ _=>rfl,fun _ _ _ _=>rfl,fun _=>rfl⟩
 intro sz hp id ver off len
 show zec sz (.arr id ver off len) [zbc hp id]=_
 cases zbc hp id with
 | none=>rfl
 | some o=>cases o <;> rfl
theorem zu4 (n:Nat):∀ (l:List (Int × Int)),zbr n (l.map zy8)=true
 | []=>rfl
 | y :: r=>by
  have:=zu4 n r
  simp only [Qb,zbr,this,Bool.and_true]
  rfl
theorem zyw (h:List (Option Obj))(l:List (Int × Int)):(l.map zy8).map (fun r=>r.map (zc5 h))=l.map zy8:=by
 rw [List.map_map]
 apply List.map_congr_left
 intro x _
 rfl
theorem z6r (e:Exp):[D.i IntKind.i64 e.op,D.i IntKind.i64 e.v.kind,D.i IntKind.i64 e.v.i,D.s e.v.s,D.l 4 (zbu e.v.l),D.i IntKind.i64 e.occ,D.i IntKind.i64 e.attr,D.l 8 (e.args.map Exp.row)]=e.row:=(zfc e).symm
theorem z6s (l:List Exp)(e:Exp):l.map Exp.row++[e.row]=(l++[e]).map Exp.row:=by simp
theorem z2x (l:List (Int × Int))(a b:Int):l.map zy8++[[.d (.i .i64 a),.d (.i .i64 b),.d (.i .i64 0),.d (.i .i64 0),.d (.i .i64 0),.d (.s []),.nil 4,.d (.i .i64 0),.d (.i .i64 0),.nil 8]]=(l++[(a,b)]).map zy8:=by simp
theorem Zrn (A:PE E){g:Gram}(hg:g.Ok){p:GProd}(hp:p.Ok){l:List UInt8}{n:Nat}{i:Nat}{nt:Int}(hi:i ≤ 5)(hnt:zcn p (i:Int)=(nt,true)){c:Nat}(hc:za7 g nt=(c:Int))(hc4:c ≤ 4){Q:Ex→St→Prop} :
  ∀ (m a:Nat) (ins:List Exp) (outs:List (Int × Int)),a + m=c→ins.length + m ≤ 100→outs.length + m ≤ 100→(∀ e ∈ ins,InOk g p e) →
  (∀ tm (ins':List Exp),ins'.length ≤ ins.length + m→(∀ e ∈ ins',InOk g p e)→za1 tm 0 = .ptr 0 0→za1 tm 4 = .ptr 1 0→za1 tm 5 = .ptr 2 0→za1 tm 7 = .arr 4 (outs++zem g p i a m).length 0 (outs++zem g p i a m).length→za1 tm 8 = .own 3 0 8 (ins'.map Exp.row)→za1 tm 9 = .d (.i .i64 i) →
   Q (.exit 2) ⟨tm,hpR l n g p (outs++zem g p i a m)⟩) →
  LX E rL2 ⟨[0,4,5,7,8,9,10,11],[8],[(7,0)],[],[],true⟩ 5 ⟨[(0,.ptr 0 0),(4,.ptr 1 0),(5,.ptr 2 0),(7,.arr 4 outs.length 0 outs.length),(8,.own 3 0 8 (ins.map Exp.row)),(9,.d (.i .i64 i)),(10,.d (.i .i64 nt)),(11,.d (.i .i64 a))],hpR l n g p outs⟩ Q:=by
 have c1:=zn6 A hg nt
 rw [hc] at c1
 intro m
 induction m with
 | zero =>
  intro a ins outs ha h1 h2 hin hQ
  have hn:¬ ((a:Int) < (c:Int)):=by omega
  simp only [zem,List.append_nil] at hQ
  refine zah ?_
  simp only [zab,simprocAttr,zaa,List.range'_one,rL2,rL0,zrd,c1,hn]
  exact hQ _ ins (by omega) hin rfl rfl rfl rfl rfl rfl
 | succ m ih =>
  intro a ins outs ha h1 h2 hin hQ
  have hy:(a:Int) < (c:Int):=by omega
  have w:IntKind.i64.wrap ((a:Int) + 1)=((a + 1:Nat):Int):=by rw [zda (by omega) (by omega)]; omega
  have c2:=zth A hg nt (a:Int)
  have hw:ze2 g p ((i:Int),(a:Int)) = !decide (decide ((i:Int)=0)=zdf g nt a):=by
   have e1:decide ((0:Int) ≤ (a:Int))=true:=Ql (by omega)
   have e2:decide ((a:Int) < (c:Int))=true:=Ql hy
   simp only [ze2,inF,hnt,hc,Bool.true_and,e1,e2]
   congr 1
   by_cases h:zdf g nt a=decide ((i:Int)=0)
   ·rw [h]
   ·rw [decide_eq_false h,decide_eq_false (fun e=>h e.symm)]
  have r1:za4 (ins.length + 1) 104=true:=by unfold za4; exact Ql (by omega)
  have r2:za4 (outs.length + 1) 120=true:=by unfold za4; exact Ql (by omega)
  have c3:=Ze8 A (i:Int) (a:Int)
  have hk:outs.length ≤ (outs.map zy8).length:=by simp
  have tk:(outs.map zy8).take outs.length=outs.map zy8:=List.take_of_length_le (by simp)
  refine zah ?_
  cases b:decide (decide ((i:Int)=0)=zdf g nt a)
  ·rw [b] at hw
   simp only [zab,simprocAttr,zaa,List.range'_one,rL2,rL0,zrd,c1,eq_true hy,c2,b,ztm,evZ,r1,r2,w,evB,Qf,List.length_cons,List.length_nil,zu4,zyw,Nat.le_refl,Nat.zero_add,List.drop_zero,tk,ne_eq,z2x]
   have lo:(outs++[((i:Int),(a:Int))]).length=outs.length + 1:=by simp
   have ih':=ih (a + 1) ins (outs++[((i:Int),(a:Int))]) (by omega) (by omega) (by omega) hin (fun tm ins' k1 k2 k3 k4 k5 k6 k7 k8=>?_)
   ·simp only [hpR,lo] at ih'
    exact ⟨_,rfl,ih'⟩
   ·have hh:outs++zem g p i a (m + 1)=(outs++[((i:Int),(a:Int))])++zem g p i (a + 1) m:=by simp [zem,hw]
    rw [hh] at hQ
    exact hQ tm ins' (by omega) k2 k3 k4 k5 k6 k7 k8
  ·rw [b] at hw
   have h0:(0:Int) ≤ (a:Int):=by omega
   have hin1:decide (zdf g nt a=decide ((i:Int)=0))=true:=Ql (of_decide_eq_true b).symm
   simp only [zab,simprocAttr,zaa,List.range'_one,rL2,rL0,zrd,c1,eq_true hy,c2,c3,b,ztm,evZ,r1,r2,w,Qf,zu4,zyw]
   rw [z6r,z6s]
   refine ⟨_,rfl,ih (a + 1) (ins++[z2w i a]) outs (by omega) (by simp; omega) (by omega) (fun e he=>?_) (fun tm ins' k1 k2 k3 k4 k5 k6 k7 k8=>?_)⟩
   ·rcases List.mem_append.1 he with he | he
    ·exact hin e he
    ·rw [List.mem_singleton.1 he]
     refine .ref _ _ ?_
     simp only [inF,hnt,hc,Bool.true_and,hin1,Ql hy,Ql h0]
   ·have hh:outs++zem g p i a (m + 1)=outs++zem g p i (a + 1) m:=by simp [zem,hw]
    rw [hh] at hQ
    exact hQ tm ins' (by simp at k1; omega) k2 k3 k4 k5 k6 k7 k8
open Go
theorem z2y {g:Gram}{p:GProd}{i:Int}(h:(zcn p i).2=false):∀ (n a:Nat),zem g p i a n=[]
 | 0,a=>rfl
 | n + 1,a=>by
  have:ze2 g p (i,(a:Int))=false:=by simp only [ze2,h,Bool.false_and]
  simp only [zem,this,z2y h n (a + 1),List.append_nil,Qm,if_false]
theorem zw8 (g:Gram)(p:GProd)(i:Int):∀ (n a:Nat),(zem g p i a n).length ≤ n
 | 0,a=>Nat.le_refl _
 | n + 1,a=>by
  have:=zw8 g p i n (a + 1)
  simp only [zem,Qg]
  split <;> simp <;> omega
theorem Zmm (A:PE E){g:Gram}(hg:g.Ok){p:GProd}(hp:p.Ok){l:List UInt8}{n:Nat}(hr:p.right.length ≤ 5)(hc4:∀ nt,za7 g nt ≤ 4){Q:Ex→St→Prop} :
  ∀ (m i:Nat) (ins:List Exp) (outs:List (Int × Int)),i + m=p.right.length + 1→ins.length ≤ 5 * i→outs.length ≤ 5 * i→(∀ e ∈ ins,InOk g p e) →
  (∀ tm (ins':List Exp),ins'.length ≤ 30→(∀ e ∈ ins',InOk g p e)→za1 tm 0 = .ptr 0 0→za1 tm 7 = .arr 4 (outs++zfr g p i m).length 0 (outs++zfr g p i m).length→za1 tm 8 = .own 3 0 8 (ins'.map Exp.row)→(outs++zfr g p i m).length ≤ 30 →
   Q (.exit 0) ⟨tm,hpR l n g p (outs++zfr g p i m)⟩) →
  LX E rL0 ⟨[0,4,5,7,8,9],[8],[(7,0)],[],[],true⟩ 5 ⟨[(0,.ptr 0 0),(4,.ptr 1 0),(5,.ptr 2 0),(7,.arr 4 outs.length 0 outs.length),(8,.own 3 0 8 (ins.map Exp.row)),(9,.d (.i .i64 i))],hpR l n g p outs⟩ Q:=by
 intro m
 induction m with
 | zero =>
  intro i ins outs hi h1 h2 hin hQ
  have hn:¬ ((i:Int) ≤ (p.right.length:Int)):=by omega
  simp only [zfr,List.append_nil] at hQ
  refine zah ?_
  simp only [zab,simprocAttr,zaa,List.range'_one,rL0,zrd,hn,Qf]
  exact hQ _ ins (by omega) hin rfl rfl rfl (by omega)
 | succ m ih =>
  intro i ins outs hi h1 h2 hin hQ
  have hy:(i:Int) ≤ (p.right.length:Int):=by omega
  have w:IntKind.i64.wrap ((i:Int) + 1)=((i + 1:Nat):Int):=by rw [zda (by omega) (by omega)]; omega
  simp only [zfr] at hQ
  have step:∀ nt,zcn p (i:Int)=(nt,true)→LX E rL2 ⟨[0,4,5,7,8,9,10,11],[8],[(7,0)],[],[],true⟩ 5 ⟨[(0,.ptr 0 0),(4,.ptr 1 0),(5,.ptr 2 0),(7,.arr 4 outs.length 0 outs.length),(8,.own 3 0 8 (ins.map Exp.row)),(9,.d (.i .i64 i)),(10,.d (.i .i64 nt)),(11,.d (.i .i64 0))],hpR l n g p outs⟩
    (zcw 2 (zcw 1 (zrx E (.region false [⟨some 20,.mv (.t 9),none,0⟩,⟨some 21,.bin .add (.t 20) (.k (.d (.i .i64 1))),none,0⟩,⟨some 9,.mv (.t 21),none,0⟩]) (zaa E rL0 ⟨[0,4,5,7,8,9],[8],[(7,0)],[],[],true⟩ 5 Q)))):=fun nt hnt=>by
   have hcn:=(zi9 hg nt).1
   obtain ⟨c,hc⟩:∃ c:Nat,za7 g nt=(c:Int):=⟨(za7 g nt).toNat,by omega⟩
   have hc4':=hc4 nt
   have hQ2:=hQ
   simp only [hnt,hc,Qk] at hQ2
   refine Zrn A hg hp (l:=l) (n:=n) (i:=i) (nt:=nt) (by omega) hnt hc (by omega) c 0 ins outs (by omega) (by omega) (by omega) hin (fun tm ins' k1 k2 k0 k4 k5 k7 k8 k9=>?_)
   have lw:=zw8 g p (i:Int) c 0
   simp only [zab,simprocAttr,zaa,List.range'_one,k0,k4,k5,k7,k8,k9,w,zu4,zyw]
   refine ⟨_,rfl,ih (i + 1) ins' (outs++zem g p i 0 c) (by omega) (by omega) (by simp; omega) k2 (fun tm ins2 q1 q2 q3 q4 q5 q6=>?_)⟩
   have hh:outs++(zem g p i 0 c++zfr g p (i + 1) m)=(outs++zem g p i 0 c)++zfr g p (i + 1) m:=by simp
   rw [hh] at hQ2
   exact hQ2 tm ins2 q1 q2 q3 q4 q5 q6
  refine zah ?_
  by_cases h0:i=0
  ·subst h0
   have hnt:zcn p ((0:Nat):Int)=(p.left,true):=by simp [zcn]
   have hz:¬ ((0:Nat):Int) > 0:=by omega
   have st:=step _ hnt
   simp only [zab,simprocAttr,zaa,List.range'_one,rL0,zrd,eq_true hy,hz,Qf]
   exact st
  ·have hz:((i:Nat):Int) > 0:=by omega
   have w2:IntKind.i64.wrap ((i:Int) - 1)=((i - 1:Nat):Int):=by rw [zda (by omega) (by omega)]; omega
   have la:i - 1 < p.right.length:=by omega
   have z:(0:Int) ≤ ((i - 1:Nat):Int):=by omega
   have ga:(p.right.map GSym.row)[i - 1]?=some [.b (p.right[i - 1]).tok,.i .i64 (p.right[i - 1]).at_]:=by rw [List.getElem?_map,Qd la]; rfl
   have hoc:zcn p (i:Int)=if (p.right[i - 1]).tok then (0,false) else ((p.right[i - 1]).at_,true):=by
    have e1:((i:Int) - 1).toNat=i - 1:=by omega
    have g0:¬ ((i:Int) < 0 ∨ (i:Int) > (p.right.length:Int)):=by omega
    have g1:¬ ((i:Int)=0):=by omega
    simp only [zcn,if_neg g1,if_neg g0,e1,Qd la]
   cases ht:(p.right[i - 1]).tok
   ·rw [ht] at hoc ga
    simp only [Qm,if_false] at hoc
    have st:=step _ hoc
    simp only [zab,simprocAttr,zaa,List.range'_one,rL0,zrd,eq_true hy,eq_true hz,Qf,w2,eq_true z,ga,evB]
    exact st
   ·rw [ht] at hoc ga
    simp only [if_true] at hoc
    have r1:za4 (ins.length + 1) 104=true:=by unfold za4; exact Ql (by omega)
    have hbt:zbw p 2 (i:Int)=false:=by
     have e1:((i:Int) - 1).toNat=i - 1:=by omega
     have g0:¬ ((i:Int) < 1):=by omega
     have g1:¬ ((i:Int) > (p.right.length:Int)):=by omega
     simp only [zbw,decide_eq_false g0,decide_eq_false g1,e1,Qd la,ht,Bool.not_true,Bool.or_self,Bool.and_false]
    have wn:zem g p i 0 (za7 g (zcn p i).1).toNat=[]:=z2y (by rw [hoc]) _ _
    rw [wn] at hQ
    simp only [List.nil_append] at hQ
    simp only [zab,simprocAttr,zaa,List.range'_one,rL0,zrd,eq_true hy,eq_true hz,Qf,w2,eq_true z,ga,r1,w,zu4,zyw]
    have e1:ins.map Exp.row++[[D.i .i64 2,.i .i64 0,.i .i64 0,.s [],.l 4 [],.i .i64 i,.i .i64 0,.l 8 []]]=(ins++[zlu i]).map Exp.row:=by
     simp only [List.map_append,Qb,Qc]; rfl
    rw [e1]
    refine ⟨_,rfl,ih (i + 1) (ins++[zlu i]) outs (by omega) (by simp; omega) (by omega) (fun e he=>?_) hQ⟩
    rcases List.mem_append.1 he with he | he
    ·exact hin e he
    ·rw [List.mem_singleton.1 he]
     exact .text _ hbt
open Go
def rL4:CCode:=match zrd.body with
 | .seq _ (.seq _ (.seq _ (.seq _ (.seq (.seq _ (.block _ (.loop _ c))) _))))=>c
 | _=>.skip
def rL6:CCode:=match rL4 with
 | .seq _ (.seq (.block _ (.seq _ (.seq (.seq _ (.block _ (.loop _ c))) _))) _)=>c
 | _=>.skip
inductive Built (g:Gram) (p:GProd):Nat→Exp→Prop
 | num (x:Int):0 ≤ x→x < 5→Built g p 0 (z2v x)
 | op {k:Nat} {o:Int} {e i:Exp}:(o=4 ∨ o=7 ∨ o=13 ∨ o=14)→Built g p k e→InOk g p i→Built g p (k + 1) (.mk o (.mk 0 0 [] []) 0 0 [e,i])
abbrev z2z (e:Exp):List V:=[.d (.i .i64 e.op),.d (.i .i64 e.v.kind),.d (.i .i64 e.v.i),.d (.s e.v.s),.d (.l 4 (zbu e.v.l)),.d (.i .i64 e.occ),.d (.i .i64 e.attr),.d (.l 8 (e.args.map Exp.row))]
abbrev hpX (l:List UInt8)(n:Nat)(g:Gram)(p:GProd)(O:Obj)(e:Exp):List (Option Obj):=[pk l n,bxG g,bxP p,some (.tok 0 8),some O,none,none,none,none,some (.box (z2z e)),none,none,none,none]
theorem Zmn (A:PE E){g:Gram}{p:GProd}{l:List UInt8}(hl:l.length ≤ 1000){ins:List Exp}(hi:ins.length ≤ 30)(hin:∀ e ∈ ins,InOk g p e){ver:Nat}{rows:List (List V)}(hu:zbr 14 rows=true)(hN:∀ h,rows.map (fun r=>r.map (zc5 h))=rows){v7 v12:D}{K:Nat}{Q:Ex→St→Prop}
  (hQ:∀ tm n' e' k,n' ≤ l.length→Built g p k e'→k ≤ 2→za1 tm 0 = .ptr 0 0→za1 tm 7 = .arr 4 ver 0 K→za1 tm 8 = .own 3 0 8 (ins.map Exp.row)→za1 tm 12 = .d v12→za1 tm 13 = .ptr 9 0→Q (.exit 6) ⟨tm,hpX l n' g p (.arr ver 10 rows) e'⟩) :
  ∀ (m n k:Nat) (e:Exp),n ≤ l.length→Built g p k e→k + m ≤ 2 →
  LX E rL6 ⟨[0,7,8,12,13,14],[],[],[],[(13,4),(13,7)],true⟩ 14 ⟨[(0,.ptr 0 0),(7,.arr 4 ver 0 K),(8,.own 3 0 8 (ins.map Exp.row)),(12,.d v12),(13,.ptr 9 0),(14,.d (.i .i64 m))],hpX l n g p (.arr ver 10 rows) e⟩ Q:=by
 intro m
 induction m with
 | zero =>
  intro n k e hn hb hk
  have h0:¬ (((0:Nat):Int) > 0):=by omega
  refine zah ?_
  simp only [zab,simprocAttr,zaa,List.range'_one,rL6,rL4,zrd,h0]
  exact hQ _ n e k hn hb (by omega) rfl rfl rfl rfl rfl
 | succ m ih =>
  intro n k e hn hb hk
  have h0:(((m + 1:Nat):Int) > 0):=by omega
  have w:IntKind.i64.wrap (((m + 1:Nat):Int) - 1)=(m:Int):=by rw [zda (by omega) (by omega)]; omega
  refine zah ?_
  by_cases hz:(ins.length:Int) > 0
  ·obtain ⟨r1,n1,q1,q2,c1⟩:=zfe A hl hn (m:=4) (by omega) (by omega)
   obtain ⟨r2,n2,q3,q4,c2⟩:=zfe A hl q2 (m:=(ins.length:Int)) (by omega) (by omega)
   obtain ⟨o,ho,go4⟩:∃ o:Int,(o=4 ∨ o=7 ∨ o=13 ∨ o=14)∧([[.i .i64 4],[.i .i64 7],[.i .i64 13],[.i .i64 14]]:List (List D))[r1]?=some [.i .i64 o]:=by
    have:r1=0 ∨ r1=1 ∨ r1=2 ∨ r1=3:=by omega
    rcases this with rfl | rfl | rfl | rfl
    ·exact ⟨4,by simp,rfl⟩
    ·exact ⟨7,by simp,rfl⟩
    ·exact ⟨13,by simp,rfl⟩
    ·exact ⟨14,by simp,rfl⟩
   have la:r2 < ins.length:=by omega
   have ga:(ins.map Exp.row)[r2]?=some (ins[r2]).row:=by rw [List.getElem?_map,Qd la]; rfl
   have hm:=hin _ (List.getElem_mem la)
   generalize ins[r2]=x at *
   rw [zfc] at ga
   have z1:(0:Int) ≤ (r1:Int):=by omega
   have z2:(0:Int) ≤ (r2:Int):=by omega
   simp only [zab,simprocAttr,zaa,List.range'_one,rL6,rL4,zrd,eq_true h0,eq_true hz,Qf,c1,c2,go4,ga,eq_true z1,eq_true z2,w,hu,hN,List.length_cons,List.length_nil]
   have e1:([[D.i .i64 e.op,.i .i64 e.v.kind,.i .i64 e.v.i,.s e.v.s,.l 4 (zbu e.v.l),.i .i64 e.occ,.i .i64 e.attr,.l 8 (e.args.map Exp.row)],[D.i .i64 x.op,.i .i64 x.v.kind,.i .i64 x.v.i,.s x.v.s,.l 4 (zbu x.v.l),.i .i64 x.occ,.i .i64 x.attr,.l 8 (x.args.map Exp.row)]]:List (List D))=[e,x].map Exp.row:=by
    simp only [Qb,Qc,zfc]
   rw [e1]
   exact ⟨by rfl,_,rfl,ih n2 (k + 1) (.mk o (.mk 0 0 [] []) 0 0 [e,x]) q4 (.op ho hb hm) (by omega)⟩
  ·simp only [zab,simprocAttr,zaa,List.range'_one,rL6,rL4,zrd,eq_true h0,hz,Qf]
   exact hQ _ n e k hn hb (by omega) rfl rfl rfl rfl rfl
open Go
abbrev ztn (r:GRule):List V:=[.d (.i .i64 r.occ),.d (.i .i64 r.attr),.d (.i .i64 r.e.op),.d (.i .i64 r.e.v.kind),.d (.i .i64 r.e.v.i),.d (.s r.e.v.s),.d (.l 4 (zbu r.e.v.l)),.d (.i .i64 r.e.occ),.d (.i .i64 r.e.attr),.d (.l 8 (r.e.args.map Exp.row))]
abbrev zlv (rs:List GRule)(outs:List (Int × Int)):List (List V):=rs.map ztn++outs.map zy8
theorem z20 (n:Nat):∀ (a b:List (List V)),zbr n (a++b)=(zbr n a && zbr n b)
 | [],b=>by simp [zbr]
 | x :: a,b=>by simp only [List.cons_append,zbr,z20 n a b,Bool.and_assoc]
theorem Zak (n:Nat):∀ (l:List GRule),zbr n (l.map ztn)=true
 | []=>rfl
 | y :: r=>by
  have:=Zak n r
  simp only [Qb,zbr,this,Bool.and_true]
  rfl
theorem Zfa (h:List (Option Obj))(l:List GRule):(l.map ztn).map (fun r=>r.map (zc5 h))=l.map ztn:=by
 rw [List.map_map]
 apply List.map_congr_left
 intro x _
 rfl
theorem Zal (n:Nat)(rs:List GRule)(outs:List (Int × Int)):zbr n (zlv rs outs)=true:=by rw [z20,Zak,zu4]; rfl
theorem Zam (h:List (Option Obj))(rs:List GRule)(outs:List (Int × Int)):(zlv rs outs).map (fun r=>r.map (zc5 h))=zlv rs outs:=by rw [List.map_append,Zfa,zyw]
structure Made1 (g:Gram)(p:GProd)(r:GRule):Prop where
 e:∃ k,k ≤ 2∧Built g p k r.e
abbrev hpG (l:List UInt8)(n:Nat)(g:Gram)(p:GProd)(K:Nat)(rows:List (List V)):List (Option Obj):=[pk l n,bxG g,bxP p,some (.tok 0 8),some (.arr K 10 rows)]
theorem Zan (A:PE E)(x:Int):lcall E 188 [.agg [.d (.i .i64 1),.d (.i .i64 x),.d (.s []),.d (.l 4 [])]] []=some ((z2v x).arg,[]):=by
 refine zaq A.e188 ?_
 simp only [zab,simprocAttr,zaa,List.range'_one,Zdy]
 rfl
theorem Zmo (A:PE E){g:Gram}{p:GProd}{l:List UInt8}(hl:l.length ≤ 1000){ins:List Exp}(hi:ins.length ≤ 30)(hin:∀ e ∈ ins,InOk g p e){outs:List (Int × Int)}(ho:outs.length ≤ 30){Q:Ex→St→Prop}
  (hQ:∀ tm n' (rs:List GRule),n' ≤ l.length→rs.map GRule.at_=outs→(∀ r ∈ rs,Made1 g p r)→za1 tm 7 = .arr 4 outs.length 0 outs.length→Q (.exit 4) ⟨tm,hpG l n' g p outs.length (rs.map ztn)⟩) :
  ∀ (m i n:Nat) (rs:List GRule),i + m=outs.length→rs.length=i→n ≤ l.length→rs.map GRule.at_=outs.take i→(∀ r ∈ rs,Made1 g p r) →
  LX E rL4 ⟨[0,7,8,12],[],[],[],[],true⟩ 5 ⟨[(0,.ptr 0 0),(7,.arr 4 outs.length 0 outs.length),(8,.own 3 0 8 (ins.map Exp.row)),(12,.d (.i .i64 i))],hpG l n g p outs.length (zlv rs (outs.drop i))⟩ Q:=by
 intro m
 induction m with
 | zero =>
  intro i n rs hm hrs hn hat hall
  have h0:¬ ((i:Int) < (outs.length:Int)):=by omega
  rw [List.take_of_length_le (by omega)] at hat
  rw [List.drop_eq_nil_of_le (by omega)]
  refine zah ?_
  simp only [zab,simprocAttr,zaa,List.range'_one,rL4,zrd,h0]
  have e:zlv rs []=rs.map ztn:=by simp [zlv]
  rw [e]
  exact hQ _ n rs hn hat hall rfl
 | succ m ih =>
  intro i n rs hm hrs hn hat hall
  have h0:(i:Int) < (outs.length:Int):=by omega
  have w:IntKind.i64.wrap ((i:Int) + 1)=((i + 1:Nat):Int):=by rw [zda (by omega) (by omega)]; omega
  obtain ⟨r1,n1,q1,q2,c1⟩:=zfe A hl hn (m:=5) (by omega) (by omega)
  obtain ⟨r2,n2,q3,q4,c2⟩:=zfe A hl q2 (m:=3) (by omega) (by omega)
  have c3:=Ze7 A (r1:Int)
  have c3':=Zan A (r1:Int)
  have z0:(0:Int) ≤ (i:Int):=by omega
  have hu:=Zal 14 rs (outs.drop i)
  have hN:=fun h=>Zam h rs (outs.drop i)
  have st:=Zmn A (g:=g) (p:=p) hl hi hin (ver:=outs.length) hu hN (v7:=.nm) (v12:=.i .i64 i) (K:=outs.length)
   (Q:=zcw 6 (zrx E (.region false [⟨some 107,.mv (.t 7),none,0⟩,⟨some 108,.mv (.t 12),none,0⟩,⟨some 109,.ld true 8 (.t 13),none,0⟩,⟨some 110,.ia 10 (.t 107) (.t 108),none,0⟩,⟨some 111,.fa 2 (.t 110),none,0⟩,⟨none,.st 8 (.t 111) (.t 109),none,0⟩])
    (zcw 5 (zrx E (.region false [⟨some 75,.mv (.t 12),none,0⟩,⟨some 76,.bin .add (.t 75) (.k (.d (.i .i64 1))),none,0⟩,⟨some 12,.mv (.t 76),none,0⟩]) (zaa E rL4 ⟨[0,7,8,12],[],[],[],[],true⟩ 5 Q)))))
   (fun tm n' e' k k1 k2 k3 k4 k5 k6 k7 k8=>?_) r2 n2 0 (z2v r1) q4 (.num _ (by omega) (by omega)) (by omega)
  ·refine zah ?_
   simp only [zab,simprocAttr,zaa,List.range'_one,rL4,zrd,eq_true h0,c1,c2,c3,c3',Zal,Zam]
   exact st
  ·have la:i < outs.length:=by omega
   have sA:∀ hp:List (Option Obj),stA 8 4 outs.length i 2 hp (some (z2z e')) (some (.arr outs.length 10 (zlv rs (outs.drop i))))=some (hp.set 4 (some (.arr outs.length 10 (zlv (rs++[⟨(outs[i]).1,(outs[i]).2,e'⟩]) (outs.drop (i + 1)))))):=fun hp=>by
    have e1:(zlv rs (outs.drop i))[i]?=some (zy8 outs[i]):=by
     rw [List.getElem?_append_right (by simp; omega)]
     simp only [Qf,hrs,Nat.sub_self,List.getElem?_map,List.getElem?_drop,Nat.add_zero,Qd la,Option.map_some]
    have e2:over (zy8 outs[i]) 2 (z2z e')=some (ztn ⟨(outs[i]).1,(outs[i]).2,e'⟩):=rfl
    have e3:(zlv rs (outs.drop i)).set i (ztn ⟨(outs[i]).1,(outs[i]).2,e'⟩)=zlv (rs++[⟨(outs[i]).1,(outs[i]).2,e'⟩]) (outs.drop (i + 1)):=by
     rw [List.drop_eq_getElem_cons la]
     show (rs.map ztn++_).set i _=_
     rw [List.set_append_right _ _ (by simp; omega)]
     simp only [Qf,hrs,Nat.sub_self,Qb,List.set_cons_zero,zlv,List.map_append,Qc,List.append_assoc,List.cons_append,List.nil_append]
    unfold stA
    simp only [if_true,e1,e2,e3]
    rfl
   simp only [zab,simprocAttr,zaa,List.range'_one,k4,k5,k6,k7,k8,w,Zal,Zam,eq_true h0,eq_true z0,and_self,sA]
   refine ⟨_,rfl,ih (i + 1) n' (rs++[⟨(outs[i]).1,(outs[i]).2,e'⟩]) (by omega) (by simp; omega) k1 ?_ (fun r hr=>?_)⟩
   ·rw [List.map_append,hat,List.take_succ_eq_append_getElem la]
    rfl
   ·rcases List.mem_append.1 hr with hr | hr
    ·exact hall r hr
    ·rw [List.mem_singleton.1 hr]
     exact ⟨k,k3,k2⟩
theorem z21 (rs:List GRule):rs.map ztn=(rs.map GRule.row).map ofDs:=by rw [List.map_map]; rfl
theorem z7r (rs:List GRule):zcj (rs.map ztn)=[]:=by rw [z21]; exact zd3 _
theorem Zfb (f sh:Nat→Nat)(rs:List GRule):zeb f sh (rs.map ztn)=rs.map ztn:=by rw [z21]; exact zhj ..
def Zfc (l:List UInt8)(g:Gram)(p:GProd)(x:V × List (Option Obj)):Prop:=∃ (n':Nat) (rs:List GRule) (K:Nat),n' ≤ l.length∧rs.map GRule.at_=zd6 g p∧(∀ r ∈ rs,Made1 g p r)∧rs.length ≤ 30∧x=(.arr 1 K 0 rs.length,[pk l n',some (.arr K 10 (rs.map ztn))])
theorem zyx (A:PE E){g:Gram}(hg:g.Ok){p:GProd}(hp:p.Ok)(hr:p.right.length ≤ 5)(hc4:∀ nt,za7 g nt ≤ 4){l:List UInt8}(hl:l.length ≤ 1000){n:Nat}(hn:n ≤ l.length) :
  ∃ x,lcall E 183 [.ptr 0 0,g.arg,p.arg] [pk l n]=some x∧Zfc l g p x:=by
 refine zud A.e183 ?_
 simp only [zab,simprocAttr,zaa,List.range'_one,zrd]
 refine Zmm A hg hp (l:=l) (n:=n) hr hc4 (p.right.length + 1) 0 [] [] (by omega) (by simp) (by simp) (by simp) (fun tm ins q1 q2 q3 q4 q5 q6=>?_)
 simp only [List.nil_append] at q4 q6 ⊢
 simp only [zab,simprocAttr,zaa,List.range'_one,q3,q4,q5,zu4,zyw]
 refine Zmo A (g:=g) (p:=p) hl q1 q2 q6 (fun tm n' rs k1 k2 k3 k4=>?_) (zfr g p 0 (p.right.length + 1)).length 0 n [] (by omega) rfl hn (by simp) (by simp)
 simp only [zab,simprocAttr,zaa,List.range'_one,k4,Zak,Zfa,z7r,Zfb]
 have e:rs.length=(zfr g p 0 (p.right.length + 1)).length:=by rw [← k2]; simp
 exact ⟨n',rs,(zfr g p 0 (p.right.length + 1)).length,k1,k2,k3,by omega,by rw [e]⟩
open Go
def sL0:CCode:=match zoc.body with
 | .seq _ (.seq _ (.seq (.seq _ (.block _ (.loop _ c))) _))=>c
 | _=>.skip
def sL1:CCode:=match zoc.body with
 | .seq _ (.seq _ (.seq _ (.seq (.seq _ (.block _ (.loop _ c))) _)))=>c
 | _=>.skip
def sL2:CCode:=match zoc.body with
 | .seq _ (.seq _ (.seq _ (.seq _ (.seq (.seq _ (.block _ (.loop _ c))) _))))=>c
 | _=>.skip
def zkf (k:Nat):UInt8:=UInt8.ofNat (97 + k)
def Znv (k:Nat):GTok:=⟨[116,zkf k],[zkf k],false⟩
def zkg (k:Nat):List GTok:=(List.range k).map Znv
theorem zyy (k:Nat):zkg (k + 1)=zkg k++[Znv k]:=by simp [zkg,List.range_succ]
theorem zhl (k:Nat):(zkg k).length=k:=by simp [zkg]
abbrev z3:Option Obj:=some (.box [.nil 3,.nil 3,.nil 3])
abbrev Znw (l:List UInt8)(n:Nat)(ts:List GTok):List (Option Obj):=[pk l n,z3,some (.box [.own 7 0 3 (ts.map GTok.row),.nil 3,.nil 3]),none,none,none,none,some (.tok 0 3)]
theorem Zfd {l:List UInt8}{n:Nat}{Q:Ex→St→Prop}:∀ (m k:Nat),m + k ≤ 20 →
  (∀ tm,za1 tm 0 = .ptr 0 0→za1 tm 2 = .ptr 1 0→za1 tm 3 = .ptr 2 0→Q (.exit 0) ⟨tm,Znw l n (zkg (k + m))⟩) →
  LX E sL0 ⟨[0,2,3,4],[],[(3,0)],[],[],true⟩ 8 ⟨[(0,.ptr 0 0),(2,.ptr 1 0),(3,.ptr 2 0),(4,.d (.i .i64 m))],Znw l n (zkg k)⟩ Q:=by
 intro m
 induction m with
 | zero =>
  intro k hk hQ
  have h0:¬ (((0:Nat):Int) > 0):=by omega
  refine zah ?_
  simp only [zab,simprocAttr,zaa,List.range'_one,sL0,zoc,h0]
  exact hQ _ rfl rfl rfl
 | succ m ih =>
  intro k hk hQ
  have h0:(((m + 1:Nat):Int) > 0):=by omega
  have w:IntKind.i64.wrap (((m + 1:Nat):Int) - 1)=(m:Int):=by rw [zda (by omega) (by omega)]; omega
  have w1:IntKind.i64.wrap (97 + (k:Int))=((97 + k:Nat):Int):=by rw [zda (by omega) (by omega)]; omega
  have w2:IntKind.u8.wrap ((97 + k:Nat):Int)=((97 + k:Nat):Int):=by
   show ((97 + k:Nat):Int) % 256=_
   omega
  have hl:=zhl k
  have r1:za4 (k + 1) 40=true:=by unfold za4; exact Ql (by omega)
  refine zah ?_
  simp only [zab,simprocAttr,zaa,List.range'_one,sL0,zoc,eq_true h0,w,w1,w2,hl,r1,Qf]
  have e1:(zkg k).map GTok.row++[[D.s [116,UInt8.ofNat (97 + k)],.s [UInt8.ofNat (97 + k)],.b false]]=(zkg (k + 1)).map GTok.row:=by rw [zyy,List.map_append]; rfl
  rw [e1]
  refine ⟨_,rfl,ih (k + 1) (by omega) (fun tm k0 k2 k3=>?_)⟩
  have e2:k + 1 + m=k + (m + 1):=by omega
  rw [e2]
  exact hQ tm k0 k2 k3
def ij:List (List UInt8):=[[105],[106]]
def su:List (List UInt8):=[[115],[117]]
structure NtOk (k:Nat)(x:GNt):Prop where
 name:x.name=[110,zkf k]
 inh:∃ a,a ≤ 2∧x.inh=ij.take a
 first:k=0→x.inh=[]
 syn:∃ b,b ≤ 2∧x.syn=su.take b
def zok (ns:List GNt):Prop:=∀ k (h:k < ns.length),NtOk k ns[k]
theorem zok.snoc {ns:List GNt}(h:zok ns){x:GNt}(hx:NtOk ns.length x):zok (ns++[x]):=fun k hk=>by
 by_cases e:k < ns.length
 ·rw [List.getElem_append_left e]; exact h k e
 ·have:k=ns.length:=by simp at hk; omega
  subst this
  rw [List.getElem_append_right (Nat.le_refl _)]
  simpa using hx
abbrev Zju (l:List UInt8)(n:Nat)(ts:List GTok)(ns:List GNt):List (Option Obj):=[pk l n,z3,some (.box [.own 7 0 3 (ts.map GTok.row),.own 12 0 3 (ns.map GNt.row),.nil 3]),none,none,none,none,some (.tok 0 3),none,none,none,none,some (.tok 0 3)]
theorem Zmp {r:Nat}(h:r ≤ 2):zbi none (some (.d (.i .i64 (r:Int)))) 2=some (0,r):=by
 unfold zbi
 simp only
 rw [if_pos ⟨by omega,by omega,by omega⟩]; rfl
theorem zpy (r:Nat):([[D.s [105]],[D.s [106]]]:List (List D)).take r=(ij.take r).map za2:=by rw [List.map_take]; rfl
theorem zpz (r:Nat):([[D.s [115]],[D.s [117]]]:List (List D)).take r=(su.take r).map za2:=by rw [List.map_take]; rfl
theorem Zmq (A:PE E){l:List UInt8}(hl:l.length ≤ 1000){ts:List GTok}{Q:Ex→St→Prop}:∀ (m n:Nat) (ns:List GNt),ns.length + m ≤ 4→n ≤ l.length→zok ns →
  (∀ tm n' (ns':List GNt),n' ≤ l.length→zok ns'→ns'.length=ns.length + m→za1 tm 0 = .ptr 0 0→za1 tm 2 = .ptr 1 0→za1 tm 3 = .ptr 2 0→Q (.exit 2) ⟨tm,Zju l n' ts ns'⟩) →
  LX E sL1 ⟨[0,2,3,6],[],[(3,1)],[],[],true⟩ 13 ⟨[(0,.ptr 0 0),(2,.ptr 1 0),(3,.ptr 2 0),(6,.d (.i .i64 m))],Zju l n ts ns⟩ Q:=by
 intro m
 induction m with
 | zero =>
  intro n ns hk hn hns hQ
  have h0:¬ (((0:Nat):Int) > 0):=by omega
  refine zah ?_
  simp only [zab,simprocAttr,zaa,List.range'_one,sL1,zoc,h0]
  exact hQ _ n ns hn hns rfl rfl rfl rfl
 | succ m ih =>
  intro n ns hk hn hns hQ
  have h0:(((m + 1:Nat):Int) > 0):=by omega
  have w:IntKind.i64.wrap (((m + 1:Nat):Int) - 1)=(m:Int):=by rw [zda (by omega) (by omega)]; omega
  have w1:IntKind.i64.wrap (97 + (ns.length:Int))=((97 + ns.length:Nat):Int):=by rw [zda (by omega) (by omega)]; omega
  have w2:IntKind.u8.wrap ((97 + ns.length:Nat):Int)=((97 + ns.length:Nat):Int):=by
   show ((97 + ns.length:Nat):Int) % 256=_
   omega
  have r1:za4 (ns.length + 1) 64=true:=by unfold za4; exact Ql (by omega)
  refine zah ?_
  by_cases hz:(ns.length:Int) > 0
  ·obtain ⟨a,n1,q1,q2,c1⟩:=zfe A hl hn (m:=3) (by omega) (by omega)
   obtain ⟨b,n2,q3,q4,c2⟩:=zfe A hl q2 (m:=3) (by omega) (by omega)
   have b1:=Zmp (r:=a) (by omega)
   have b2:=Zmp (r:=b) (by omega)
   have hx:NtOk ns.length ⟨[110,zkf ns.length],ij.take a,su.take b⟩:=⟨rfl,⟨a,by omega,rfl⟩,fun h=>by omega,⟨b,by omega,rfl⟩⟩
   have ih':=ih n2 (ns++[⟨[110,zkf ns.length],ij.take a,su.take b⟩]) (by simp; omega) q4 (hns.snoc hx) (fun tm n' ns' k1 k2 k3 k4 k5 k6=>hQ tm n' ns' k1 k2 (by simp at k3; omega) k4 k5 k6)
   simp only [Zju,List.map_append,Qb,Qc] at ih'
   by_cases ha:a=2 <;> by_cases hb:b=2
   ·subst ha; subst hb
    simp only [zab,simprocAttr,zaa,List.range'_one,sL1,zoc,eq_true h0,w,w1,w2,r1,Qf,eq_true hz,c1,c2,b1,b2,List.length_cons,List.length_nil,zpy,zpz,List.drop_zero,Nat.sub_zero]
    exact ⟨_,rfl,ih'⟩
   ·subst ha
    simp only [zab,simprocAttr,zaa,List.range'_one,sL1,zoc,eq_true h0,w,w1,w2,r1,Qf,eq_true hz,c1,c2,b1,b2,hb,List.length_cons,List.length_nil,zpy,zpz,List.drop_zero,Nat.sub_zero]
    exact ⟨_,rfl,ih'⟩
   ·subst hb
    simp only [zab,simprocAttr,zaa,List.range'_one,sL1,zoc,eq_true h0,w,w1,w2,r1,Qf,eq_true hz,c1,c2,b1,b2,ha,List.length_cons,List.length_nil,zpy,zpz,List.drop_zero,Nat.sub_zero]
    exact ⟨_,rfl,ih'⟩
   ·simp only [zab,simprocAttr,zaa,List.range'_one,sL1,zoc,eq_true h0,w,w1,w2,r1,Qf,eq_true hz,c1,c2,b1,b2,ha,hb,List.length_cons,List.length_nil,zpy,zpz,List.drop_zero,Nat.sub_zero]
    exact ⟨_,rfl,ih'⟩
  ·obtain ⟨b,n2,q3,q4,c2⟩:=zfe A hl hn (m:=3) (by omega) (by omega)
   have b2:=Zmp (r:=b) (by omega)
   have hx:NtOk ns.length ⟨[110,zkf ns.length],ij.take 0,su.take b⟩:=⟨rfl,⟨0,by omega,rfl⟩,fun h=>rfl,⟨b,by omega,rfl⟩⟩
   have ih':=ih n2 (ns++[⟨[110,zkf ns.length],ij.take 0,su.take b⟩]) (by simp; omega) q4 (hns.snoc hx) (fun tm n' ns' k1 k2 k3 k4 k5 k6=>hQ tm n' ns' k1 k2 (by simp at k3; omega) k4 k5 k6)
   simp only [Zju,List.map_append,Qb,Qc] at ih'
   by_cases hb:b=2
   ·subst hb
    simp only [zab,simprocAttr,zaa,List.range'_one,sL1,zoc,eq_true h0,w,w1,w2,r1,Qf,hz,c2,b2,List.length_cons,List.length_nil,zpy,zpz,List.drop_zero,Nat.sub_zero]
    exact ⟨_,rfl,ih'⟩
   ·simp only [zab,simprocAttr,zaa,List.range'_one,sL1,zoc,eq_true h0,w,w1,w2,r1,Qf,hz,c2,b2,hb,List.length_cons,List.length_nil,zpy,zpz,List.drop_zero,Nat.sub_zero]
    exact ⟨_,rfl,ih'⟩
open Go
theorem zu5 {l:List UInt8}{m v sz n:Nat}{rows:List (List D)}(hn:n=rows.length)(hr:∀ r ∈ rows,r.length ≤ 20)(hl:rows.length < 3000):zdy 1 (.arr 1 v 0 n) [pk l m,some (.arr v sz (rows.map ofDs))]=some (.d (.l sz rows),[pk l m]):=by
 have h0:zeu 1 (.arr 1 v 0 n)=[1]:=rfl
 have h1:V.lend (fun i=>(([pk l m,some (.arr v sz (rows.map ofDs))]:List (Option Obj))[i]?).join) far (.arr 1 v 0 n)=some (.l sz rows):=by
  rw [zv0 (n:=20) rfl hr (by omega) (by omega)]
  subst hn
  simp
 have h2:Za6 1 (fun i=>(([pk l m,some (.arr v sz (rows.map ofDs))]:List (Option Obj))[i]?).join) (.arr 1 v 0 n)=some (.d (.l sz rows)):=by
  show (if 1 ≤ 1 then (match V.lend (fun i=>(([pk l m,some (.arr v sz (rows.map ofDs))]:List (Option Obj))[i]?).join) far (.arr 1 v 0 n) with | some d=>some (V.d d) | none=>none) else some (.arr 1 v 0 n))=_
  rw [h1]; rfl
 have h3:zbt (fun i=>(([pk l m,some (.arr v sz (rows.map ofDs))]:List (Option Obj))[i]?).join) far [1] []=some [1]:=by
  show zbt _ 4095 ([]++zcj (rows.map ofDs)) ([]++[1])=_
  rw [zd3]; rfl
 have h4:zbt (fun i=>(([pk l m,some (.arr v sz (rows.map ofDs))]:List (Option Obj))[i]?).join) far (List.range 1++V.refs (.d (.l sz rows))) []=some [0]:=rfl
 unfold zdy
 simp only [h0,h2,h3,h4]
 rfl
def sL3:CCode:=match sL2 with
 | .seq _ (.seq (.block _ (.seq _ (.seq (.seq _ (.block _ (.loop _ c))) _))) _)=>c
 | _=>.skip
abbrev Zjv (l:List UInt8)(n:Nat)(g:Gram)(left:Int)(ss:List GSym):List (Option Obj):=[pk l n,z3,some (.box [.own 7 0 3 (g.toks.map GTok.row),.own 12 0 3 (g.nts.map GNt.row),.own 17 0 3 (g.prods.map GProd.row)]),none,none,none,none,some (.tok 0 3),none,none,none,none,some (.tok 0 3),none,none,none,none,some (.tok 0 3),none,none,none,none,
 some (.box [.d (.i .i64 left),.own 27 0 2 (ss.map GSym.row),.nil 10]),none,none,none,none,some (.tok 0 2)]
theorem Zao (A:PE E){l:List UInt8}(hl:l.length ≤ 1000){g:Gram}(ht:0 < g.toks.length)(ht2:g.toks.length ≤ 100)(hn0:0 < g.nts.length)(hn2:g.nts.length ≤ 100)(hsk:∀ t ∈ g.toks,t.skip=false){left:Int}{v8:D}{Q:Ex→St→Prop}:∀ (m n:Nat) (ss:List GSym),ss.length + m ≤ 5→n ≤ l.length→(∀ s ∈ ss,zja g s=true) →
  (∀ tm n' (ss':List GSym),n' ≤ l.length→(∀ s ∈ ss',zja g s=true)→ss'.length ≤ 5→za1 tm 0 = .ptr 0 0→za1 tm 2 = .ptr 1 0→za1 tm 3 = .ptr 2 0→za1 tm 8 = .d v8→za1 tm 9 = .ptr 22 0→Q (.exit 6) ⟨tm,Zjv l n' g left ss'⟩) →
  LX E sL3 ⟨[0,2,3,8,9,10],[],[(9,1)],[],[],true⟩ 28 ⟨[(0,.ptr 0 0),(2,.ptr 1 0),(3,.ptr 2 0),(8,.d v8),(9,.ptr 22 0),(10,.d (.i .i64 m))],Zjv l n g left ss⟩ Q:=by
 intro m
 induction m with
 | zero =>
  intro n ss hk hn hss hQ
  have h0:¬ (((0:Nat):Int) > 0):=by omega
  refine zah ?_
  simp only [zab,simprocAttr,zaa,List.range'_one,sL3,sL2,zoc,h0]
  exact hQ _ n ss hn hss (by omega) rfl rfl rfl rfl rfl
 | succ m ih =>
  intro n ss hk hn hss hQ
  have h0:(((m + 1:Nat):Int) > 0):=by omega
  have w:IntKind.i64.wrap (((m + 1:Nat):Int) - 1)=(m:Int):=by rw [zda (by omega) (by omega)]; omega
  have r1:za4 (ss.length + 1) 16=true:=by unfold za4; exact Ql (by omega)
  obtain ⟨a,n1,q1,q2,c1⟩:=zfe A hl hn (m:=5) (by omega) (by omega)
  obtain ⟨b,n2,q3,q4,c2⟩:=zfe A hl q2 (m:=(g.nts.length:Int)) (by omega) (by omega)
  obtain ⟨c,n3,q5,q6,c3⟩:=zfe A hl q4 (m:=(g.toks.length:Int)) (by omega) (by omega)
  refine zah ?_
  by_cases ha:(a:Int) < 3
  ·have hx:zja g ⟨true,c⟩=true:=by
    have e1:(c:Int).toNat=c:=by omega
    have lc:c < g.toks.length:=by omega
    have e2:(0:Int) ≤ (c:Int):=by omega
    simp only [zja,if_true,e1,Qd lc,hsk _ (List.getElem_mem lc),Ql q5,Ql e2]
    rfl
   have ih':=ih n3 (ss++[⟨true,c⟩]) (by simp; omega) q6 (fun s hs=>by
    rcases List.mem_append.1 hs with hs | hs
    ·exact hss s hs
    ·rw [List.mem_singleton.1 hs]; exact hx) hQ
   simp only [Zjv,List.map_append,Qb,Qc] at ih'
   simp only [zab,simprocAttr,zaa,List.range'_one,sL3,sL2,zoc,eq_true h0,w,r1,Qf,c1,c2,c3,eq_true ha]
   exact ⟨_,rfl,ih'⟩
  ·have hx:zja g ⟨false,b⟩=true:=by
    have e2:(0:Int) ≤ (b:Int):=by omega
    simp only [zja,Qm,if_false,Ql q3,Ql e2]
    rfl
   have ih':=ih n2 (ss++[⟨false,b⟩]) (by simp; omega) q4 (fun s hs=>by
    rcases List.mem_append.1 hs with hs | hs
    ·exact hss s hs
    ·rw [List.mem_singleton.1 hs]; exact hx) hQ
   simp only [Zjv,List.map_append,Qb,Qc] at ih'
   simp only [zab,simprocAttr,zaa,List.range'_one,sL3,sL2,zoc,eq_true h0,w,r1,Qf,c1,c2,ha]
   exact ⟨_,rfl,ih'⟩
open Go
theorem zti (ts:List GTok)(ns:List GNt)(ps ps':List GProd)(left:Int)(ss:List GSym)(rs rs':List GRule)(i:Int):∀ (n a:Nat),zem ⟨ts,ns,ps⟩ ⟨left,ss,rs⟩ i a n=zem ⟨ts,ns,ps'⟩ ⟨left,ss,rs'⟩ i a n
 | 0,a=>rfl
 | n + 1,a=>by
  simp only [zem,zti ts ns ps ps' left ss rs rs' i n (a + 1)]
  rfl
theorem ztj (ts:List GTok)(ns:List GNt)(ps ps':List GProd)(left:Int)(ss:List GSym)(rs rs':List GRule):∀ (n a:Nat),zfr ⟨ts,ns,ps⟩ ⟨left,ss,rs⟩ a n=zfr ⟨ts,ns,ps'⟩ ⟨left,ss,rs'⟩ a n
 | 0,a=>rfl
 | n + 1,a=>by
  simp only [zfr,ztj ts ns ps ps' left ss rs rs' n (a + 1),zti ts ns ps ps' left ss rs rs']
  rfl
theorem zp0 (ts:List GTok)(ns:List GNt)(ps ps':List GProd)(left:Int)(ss:List GSym)(rs rs':List GRule):zd6 ⟨ts,ns,ps⟩ ⟨left,ss,rs⟩=zd6 ⟨ts,ns,ps'⟩ ⟨left,ss,rs'⟩:=ztj ..
theorem InOk.same {ts:List GTok}{ns:List GNt}{ps:List GProd}(ps':List GProd){left:Int}{ss:List GSym}{rs:List GRule}(rs':List GRule){e:Exp}(h:InOk ⟨ts,ns,ps⟩ ⟨left,ss,rs⟩ e):InOk ⟨ts,ns,ps'⟩ ⟨left,ss,rs'⟩ e:=by
 cases h with
 | ref o a h=>exact .ref o a h
 | text o h=>exact .text o h
theorem Built.same {ts:List GTok}{ns:List GNt}{ps:List GProd}(ps':List GProd){left:Int}{ss:List GSym}{rs:List GRule}(rs':List GRule){k:Nat}{e:Exp}(h:Built ⟨ts,ns,ps⟩ ⟨left,ss,rs⟩ k e):Built ⟨ts,ns,ps'⟩ ⟨left,ss,rs'⟩ k e:=by
 induction h with
 | num x h0 h1=>exact .num x h0 h1
 | op ho _ hi ih=>exact .op ho ih (hi.same ps' rs')
structure MadeP (ts:List GTok)(ns:List GNt)(p:GProd):Prop where
 l0:0 ≤ p.left
 l1:p.left < ns.length
 right:p.right.length ≤ 5
 syms:∀ s ∈ p.right,zja ⟨ts,ns,[]⟩ s=true
 rules:p.rules.map GRule.at_=zd6 ⟨ts,ns,[]⟩ p
 made:∀ r ∈ p.rules,∃ k,k ≤ 2∧Built ⟨ts,ns,[]⟩ p k r.e
 few:p.rules.length ≤ 30
theorem ztk {ns:List GNt}(h:zok ns)(ts:List GTok)(ps:List GProd)(i:Int):za7 ⟨ts,ns,ps⟩ i ≤ 4:=by
 unfold za7 ntA
 split
 ·cases hx:ns[i.toNat]? with
  | none=>simp [zy7]
  | some x =>
   obtain ⟨hlt,rfl⟩:=List.getElem?_eq_some_iff.1 hx
   obtain ⟨_,⟨a,ha,e1⟩,_,⟨b,hb,e2⟩⟩:=h _ hlt
   simp only [Option.getD_some,e1,e2,List.length_take]
   have:ij.length=2:=rfl
   have:su.length=2:=rfl
   omega
 ·simp [zy7]
theorem z22 {ns:List GNt}(h:zok ns):∀ n ∈ ns,n.inh.length ≤ 1000∧n.syn.length ≤ 1000:=fun n hn=>by
 obtain ⟨k,hk,rfl⟩:=List.getElem_of_mem hn
 obtain ⟨_,⟨a,ha,e1⟩,_,⟨b,hb,e2⟩⟩:=h k hk
 rw [e1,e2]
 simp only [List.length_take]
 omega
theorem MadeP.ok {ts:List GTok}{ns:List GNt}{p:GProd}(h:MadeP ts ns p):p.Ok:=⟨by have:=h.right; omega,by have:=h.few; omega⟩
abbrev Zmr (l:List UInt8)(n:Nat)(g:Gram):List (Option Obj):=[pk l n,z3,some (.box [.own 7 0 3 (g.toks.map GTok.row),.own 12 0 3 (g.nts.map GNt.row),.own 17 0 3 (g.prods.map GProd.row)]),none,none,none,none,some (.tok 0 3),none,none,none,none,some (.tok 0 3),none,none,none,none,some (.tok 0 3)]
theorem Zap (A:PE E){l:List UInt8}(hl:l.length ≤ 1000){ts:List GTok}(ht:0 < ts.length)(ht2:ts.length ≤ 100)(hsk:∀ t ∈ ts,t.skip=false){ns:List GNt}(hns:zok ns)(hn0:0 < ns.length)(hn2:ns.length ≤ 100){Q:Ex→St→Prop}:∀ (m n:Nat) (ps:List GProd),ps.length + m ≤ 10→n ≤ l.length→(∀ p ∈ ps,MadeP ts ns p) →
  (∀ tm n' (ps':List GProd),n' ≤ l.length→(∀ p ∈ ps',MadeP ts ns p)→ps'.length=ps.length + m→za1 tm 2 = .ptr 1 0→za1 tm 3 = .ptr 2 0→Q (.exit 4) ⟨tm,Zmr l n' ⟨ts,ns,ps'⟩⟩) →
  LX E sL2 ⟨[0,2,3,8],[],[(3,2)],[],[],true⟩ 18 ⟨[(0,.ptr 0 0),(2,.ptr 1 0),(3,.ptr 2 0),(8,.d (.i .i64 m))],Zmr l n ⟨ts,ns,ps⟩⟩ Q:=by
 intro m
 induction m with
 | zero =>
  intro n ps hk hn hps hQ
  have h0:¬ (((0:Nat):Int) > 0):=by omega
  refine zah ?_
  simp only [zab,simprocAttr,zaa,List.range'_one,sL2,zoc,h0]
  exact hQ _ n ps hn hps rfl rfl rfl
 | succ m ih =>
  intro n ps hk hn hps hQ
  have h0:(((m + 1:Nat):Int) > 0):=by omega
  have w:IntKind.i64.wrap (((m + 1:Nat):Int) - 1)=(m:Int):=by rw [zda (by omega) (by omega)]; omega
  have r1:za4 (ps.length + 1) 56=true:=by unfold za4; exact Ql (by omega)
  obtain ⟨a,n1,q1,q2,c1⟩:=zfe A hl hn (m:=(ns.length:Int)) (by omega) (by omega)
  obtain ⟨b,n2,q3,q4,c2⟩:=zfe A hl q2 (m:=4) (by omega) (by omega)
  have st:=Zao A hl (g:=⟨ts,ns,ps⟩) ht ht2 hn0 hn2 hsk (left:=(a:Int)) (v8:=.i .i64 ((m + 1:Nat):Int))
   (Q:=zcw 6 (zrx E (.seq (.region false [⟨some 115,.mv (.t 0),none,0⟩,⟨some 116,.ld true 3 (.t 3),none,0⟩,⟨some 117,.ld true 3 (.t 9),none,0⟩,⟨some 118,.call 183 [.t 115,.t 116,.t 117] 4 true,none,0⟩,⟨some 119,.fa 2 (.t 9),none,0⟩,⟨none,.st 1 (.t 119) (.t 118),none,0⟩])
    (.region false [⟨some 120,.fa 2 (.t 3),none,0⟩,⟨some 121,.ld false 1 (.t 120),none,0⟩,⟨some 122,.ld true 3 (.t 9),none,0⟩,⟨some 123,.bsl 3 1 [.i .i64 0,.l 2 [],.l 10 []] [(0,.t 122)],none,0⟩,⟨some 124,.app 3 56 (.t 121) (.t 123),none,0⟩,⟨some 125,.fa 2 (.t 3),none,0⟩,⟨none,.st 1 (.t 125) (.t 124),none,0⟩]))
     (zcw 5 (zrx E (.region false [⟨some 77,.mv (.t 8),none,0⟩,⟨some 78,.bin .sub (.t 77) (.k (.d (.i .i64 1))),none,0⟩,⟨some 8,.mv (.t 78),none,0⟩]) (zaa E sL2 ⟨[0,2,3,8],[],[(3,2)],[],[],true⟩ 18 Q)))))
   b n2 [] (by simp; omega) q4 (by simp) (fun tm n3 ss q5 hss h5 k0 k2 k3 k8 k9=>?_)
  ·refine zah ?_
   simp only [zab,simprocAttr,zaa,List.range'_one,sL2,zoc,eq_true h0,c1,c2,Qf]
   exact st
  ·have hg:Gram.Ok ⟨ts,ns,ps⟩:=⟨by simp only; omega,by simp only; omega,by simp only; omega,z22 hns,fun p hp=>(hps p hp).ok⟩
   have hpk:GProd.Ok ⟨(a:Int),ss,[]⟩:=⟨by simp only; omega,by simp⟩
   obtain ⟨x,cR,n4,rs,K,g1,g2,g3,g4,rfl⟩:=zyx A hg hpk (by simp only; omega) (ztk hns ts ps) hl q5
   have cS:zxm 1 (.arr 1 K 0 rs.length) [pk l n4,some (.arr K 10 (rs.map ztn))] [1]=some (.d (.l 10 (rs.map GRule.row)),[pk l n4]):=by
    rw [z21]
    exact zu5 (by simp) (fun r hr=>by obtain ⟨s,_,rfl⟩:=List.mem_map.1 hr; simp [GRule.row]) (by simp; omega)
   have hP:MadeP ts ns ⟨(a:Int),ss,rs⟩:=⟨by simp only; omega,q1,by simp only; omega,hss,by rw [g2]; exact zp0 ..,fun r hr=>by obtain ⟨k,hk,hb⟩:=(g3 r hr).e; exact ⟨k,hk,hb.same [] rs⟩,g4⟩
   have ih':=ih n4 (ps++[⟨(a:Int),ss,rs⟩]) (by simp; omega) g1 (fun p hp=>by
    rcases List.mem_append.1 hp with hp | hp
    ·exact hps p hp
    ·rw [List.mem_singleton.1 hp]; exact hP) (fun tm n' ps' e1 e2 e3 e4 e5=>hQ tm n' ps' e1 e2 (by simp at e3; omega) e4 e5)
   simp only [Zmr,List.map_append,Qb,Qc] at ih'
   have cR':lcall E 183 [.ptr 0 0,.agg [.d (.l 3 (ts.map GTok.row)),.d (.l 3 (ns.map GNt.row)),.d (.l 3 (ps.map GProd.row))],.agg [.d (.i .i64 a),.d (.l 2 (ss.map GSym.row)),.d (.l 10 [])]] [pk l n3]=some (.arr 1 K 0 rs.length,[pk l n4,some (.arr K 10 (rs.map ztn))]):=cR
   simp only [zab,simprocAttr,zaa,List.range'_one,k0,k2,k3,k8,k9,cR',cS,w,r1,Qf,z7r,Zfb]
   exact ⟨_,rfl,ih'⟩
open Go
structure MadeG (g:Gram):Prop where
 toks:∃ t,1 ≤ t∧t ≤ 3∧g.toks=zkg t
 nts:zok g.nts
 n0:1 ≤ g.nts.length
 n1:g.nts.length ≤ 4
 p0:1 ≤ g.prods.length
 p1:g.prods.length ≤ 7
 prods:∀ p ∈ g.prods,MadeP g.toks g.nts p
def Zms (l:List UInt8)(x:V × List (Option Obj)):Prop:=∃ (n':Nat) (g:Gram),n' ≤ l.length∧MadeG g∧x=(g.arg,[pk l n'])
theorem z23 (A:PE E){l:List UInt8}(hl:l.length ≤ 1000){n:Nat}(hn:n ≤ l.length):∃ x,lcall E 168 [.ptr 0 0] [pk l n]=some x∧Zms l x:=by
 obtain ⟨a,n1,q1,q2,c1⟩:=zfe A hl hn (m:=3) (by omega) (by omega)
 obtain ⟨b,n2,q3,q4,c2⟩:=zfe A hl q2 (m:=4) (by omega) (by omega)
 have w1:IntKind.i64.wrap ((a:Int) + 1)=((a + 1:Nat):Int):=by rw [zda (by omega) (by omega)]; omega
 have w2:IntKind.i64.wrap ((b:Int) + 1)=((b + 1:Nat):Int):=by rw [zda (by omega) (by omega)]; omega
 refine zud A.e168 ?_
 simp only [zab,simprocAttr,zaa,List.range'_one,zoc,c1,w1]
 refine Zfd (l:=l) (n:=n1) (a + 1) 0 (by omega) (fun tm k0 k2 k3=>?_)
 rw [Nat.zero_add]
 simp only [zab,simprocAttr,zaa,List.range'_one,k0,k2,k3,c2,w2]
 refine Zmq A hl (ts:=zkg (a + 1)) (b + 1) n2 [] (by simp; omega) q4 (fun k hk=>absurd hk (Nat.not_lt_zero _)) (fun tm n3 ns q5 hns hnl k0 k2 k3=>?_)
 obtain ⟨c,n4,q6,q7,c3⟩:=zfe A hl q5 (m:=7) (by omega) (by omega)
 have w3:IntKind.i64.wrap ((c:Int) + 1)=((c + 1:Nat):Int):=by rw [zda (by omega) (by omega)]; omega
 simp only [zab,simprocAttr,zaa,List.range'_one,k0,k2,k3,c3,w3]
 have hnl':ns.length=b + 1:=by simpa using hnl
 refine Zap A hl (ts:=zkg (a + 1)) (by rw [zhl]; omega) (by rw [zhl]; omega) (fun t ht=>by obtain ⟨k,_,rfl⟩:=List.mem_map.1 ht; rfl) hns (by omega) (by omega) (c + 1) n4 [] (by simp; omega) q7 (by simp) (fun tm n5 ps q8 hps hpl k2 k3=>?_)
 have hpl':ps.length=c + 1:=by simpa using hpl
 simp only [zab,simprocAttr,zaa,List.range'_one,k2,k3]
 exact ⟨n5,⟨zkg (a + 1),ns,ps⟩,q8,⟨⟨a + 1,by omega,by omega,rfl⟩,hns,by simp only; omega,by simp only; omega,by simp only; omega,by simp only; omega,hps⟩,rfl⟩
open Go
abbrev mt:GVal→Bool:=fun _=>true
theorem Zmt {g:Gram}{p:GProd}{o a:Int}(h:inF g p (o,a)=true)(hr:p.right.length ≤ 5)(hc:∀ nt,za7 g nt ≤ 4):0 ≤ o∧o ≤ 5∧0 ≤ a∧a ≤ 7:=by
 simp only [inF,Qi,Qh] at h
 obtain ⟨h1,h2,h3,_⟩:=h
 have:=hc (zcn p o).1
 refine ⟨?_, ?_,h2,by omega⟩
 ·unfold zcn at h1
  split at h1
  ·omega
  ·split at h1
   ·simp at h1
   ·omega
 ·unfold zcn at h1
  split at h1
  ·omega
  ·split at h1
   ·simp at h1
   ·omega
theorem Zfe {p:GProd}{o:Int}(h:zbw p 2 o=false)(hr:p.right.length ≤ 5):0 ≤ o∧o ≤ 5:=by
 simp only [zbw,decide_true,Bool.true_or,Bool.true_and,Bool.or_eq_false_iff,decide_eq_false_iff_not] at h
 omega
structure Fine (g:Gram)(p:GProd)(e:Exp)(k n:Nat):Prop where
 all:AllV zn4 e
 may:∀ d:Int,(k:Int) < d→zk3 mt e d=true
 text:zew p e=true
 refs:∀ x ∈ zbo e,inF g p x=true
 few:(zbo e).length ≤ n
theorem InOk.fine {g:Gram}{p:GProd}{e:Exp}(h:InOk g p e)(hr:p.right.length ≤ 5)(hc:∀ nt,za7 g nt ≤ 4):Fine g p e 0 1:=by
 cases h with
 | ref o a h =>
  obtain ⟨b1,b2,b3,b4⟩:=Zmt h hr hc
  refine ⟨.mk (fun h=>by simp [z2w,Exp.op] at h) (fun x hx=>by simp [z2w,Exp.args] at hx) (by simp [z2w,Exp.args]),fun d hd=>?_,rfl,fun x hx=>?_, ?_⟩
  ·have e1:(1:Int) ≤ d:=by omega
   have t:za3 1=0:=rfl
   simp only [z2w,zk3,zev,t,Ql e1,zer,zfy,GVal.kind,GVal.i,GVal.s,GVal.l,Ql b1,Ql b3]
   simp [b2,b4]
  ·simp only [z2w,zbo,za8,if_true,List.append_nil,List.mem_singleton] at hx
   rw [hx]; exact h
  ·simp [z2w,zbo,za8]
 | text o h =>
  obtain ⟨b1,b2⟩:=Zfe h hr
  refine ⟨.mk (fun h=>by simp [zlu,Exp.op] at h) (fun x hx=>by simp [zlu,Exp.args] at hx) (by simp [zlu,Exp.args]),fun d hd=>?_, ?_,fun x hx=>?_, ?_⟩
  ·have e1:(1:Int) ≤ d:=by omega
   have t:za3 2=0:=rfl
   simp only [zlu,zk3,zev,t,Ql e1,zer,zfy,GVal.kind,GVal.i,GVal.s,GVal.l,Ql b1]
   simp [b2]
  ·simp only [zlu,zew,zdk,h]; rfl
  ·simp [zlu,zbo,za8] at hx
  ·simp [zlu,zbo,za8]
theorem Built.fine {g:Gram}{p:GProd}{k:Nat}{e:Exp}(h:Built g p k e)(hr:p.right.length ≤ 5)(hc:∀ nt,za7 g nt ≤ 4):Fine g p e k k:=by
 induction h with
 | num x h0 h1 =>
  refine ⟨.mk (fun _=>⟨rfl,rfl,rfl⟩) (fun x hx=>by simp [z2v,Exp.args] at hx) (by simp [z2v,Exp.args]),fun d hd=>?_,rfl,fun x hx=>?_, ?_⟩
  ·have e1:(1:Int) ≤ d:=by omega
   have t:za3 0=0:=rfl
   simp only [z2v,zk3,zev,t,Ql e1,zer,GVal.kind]
   rfl
  ·simp [z2v,zbo,za8] at hx
  ·simp [z2v,zbo,za8]
 | @op k o e i ho hb hi ih =>
  have fi:=hi.fine hr hc
  have o0:o ≠ 0:=by omega
  have o1:o ≠ 1:=by omega
  have o2:o ≠ 2:=by omega
  have o3:o ≠ 3:=by omega
  refine ⟨.mk (fun h=>absurd h o0) (fun x hx=>?_) (by simp [Exp.args]),fun d hd=>?_, ?_,fun x hx=>?_, ?_⟩
  ·simp only [Exp.args,List.mem_cons,List.not_mem_nil,or_false] at hx
   rcases hx with rfl | rfl
   ·exact ih.all
   ·exact fi.all
  ·have e1:(1:Int) ≤ d:=by omega
   have m1:=ih.may (d - 1) (by omega)
   have m2:=fi.may (d - 1) (by omega)
   simp only [zk3,zev,m1,m2,Ql e1,zer,if_neg o0,if_neg o1,if_neg o2,if_neg o3,zfy,GVal.kind,GVal.i,GVal.s,GVal.l]
   rcases ho with rfl | rfl | rfl | rfl <;> rfl
  ·have bt:zbw p o 0=false:=by simp only [zbw,decide_eq_false o2,decide_eq_false o3,Bool.or_self,Bool.false_and]
   simp only [zew,zdk,bt,ih.text,fi.text]; rfl
  ·simp only [zbo,if_neg o1,za8,List.nil_append,List.append_nil,List.mem_append] at hx
   rcases hx with hx | hx
   ·exact ih.refs x hx
   ·exact fi.refs x hx
  ·have:=ih.few; have:=fi.few
   simp only [zbo,if_neg o1,za8,List.nil_append,List.append_nil,Qg]
   omega
def Zmu (mv:GVal→Bool)(g:Gram)(p:GProd)(r:GRule):Prop:=zk3 mv r.e 12=true∧zew p r.e=true∧∀ x ∈ zbo r.e,inF g p x=true
theorem ztl {mv:GVal→Bool}{g:Gram}{p:GProd}:∀ (rs:List GRule),(∀ r ∈ rs,Zmu mv g p r)→zcf mv g p rs (rs.map GRule.at_)=(true,[])
 | [],_=>rfl
 | r :: rs,h=>by
  obtain ⟨h1,h2,h3⟩:=h r List.mem_cons_self
  have hl:r.at_ ∈ (r :: rs).map GRule.at_:=List.mem_cons_self
  have ha:zfz mv g p ((r :: rs).map GRule.at_) r=true:=by
   have:((zbo r.e).any fun x=>!inF g p x)=false:=by
    rw [List.any_eq_false]
    intro x hx
    simp [h3 x hx]
   simp only [zfz,ztf,Ql hl,h1,h2,this]; rfl
  have ih:=ztl rs (fun r' hr'=>h r' (List.mem_cons_of_mem _ hr'))
  rw [zcf,if_pos ha,Qb,List.erase_cons_head]
  exact ih
theorem MadeG.ok {g:Gram}(h:MadeG g):g.Ok:=by
 obtain ⟨t,h1,h2,h3⟩:=h.toks
 have:=h.n1; have:=h.p1
 exact ⟨by rw [h3,zhl]; omega,by omega,by omega,z22 h.nts,fun p hp=>(h.prods p hp).ok⟩
theorem MadeG.count {g:Gram}(h:MadeG g)(i:Int):za7 g i ≤ 4:=ztk h.nts g.toks g.prods i
theorem MadeG.rule {g:Gram}(h:MadeG g){p:GProd}(hp:p ∈ g.prods){r:GRule}(hr:r ∈ p.rules):Fine g p r.e 2 2:=by
 obtain ⟨k,hk,hb⟩:=(h.prods p hp).made r hr
 have hb':Built g p k r.e:=hb.same g.prods p.rules
 have f:=hb'.fine (h.prods p hp).right h.count
 exact ⟨f.all,fun d hd=>f.may d (by omega),f.text,f.refs,by have:=f.few; omega⟩
theorem MadeG.wants {g:Gram}(h:MadeG g){p:GProd}(hp:p ∈ g.prods):p.rules.map GRule.at_=zd6 g p:=by
 rw [(h.prods p hp).rules]; exact zp0 ..
theorem MadeG.good {g:Gram}(h:MadeG g){p:GProd}(hp:p ∈ g.prods):p.Good zn4:=⟨(h.prods p hp).ok,fun r hr=>⟨(h.rule hp hr).all,by have:=(h.rule hp hr).few; omega⟩⟩
theorem MadeG.prod {g:Gram}(h:MadeG g){p:GProd}(hp:p ∈ g.prods):zk5 mt g p=true:=by
 have e:=ztl (mv:=mt) (g:=g) (p:=p) p.rules (fun r hr=>⟨(h.rule hp hr).may 12 (by omega),(h.rule hp hr).text,(h.rule hp hr).refs⟩)
 unfold zk5
 rw [← h.wants hp,e]
 rfl
theorem z6t {k:Nat}{n:GNt}(h:NtOk k n):zhz n=false:=by
 obtain ⟨_,⟨a,ha,e1⟩,_,⟨b,hb,e2⟩⟩:=h
 have ha':a=0 ∨ a=1 ∨ a=2:=by omega
 have hb':b=0 ∨ b=1 ∨ b=2:=by omega
 unfold zhz
 rw [e1,e2]
 rcases ha' with rfl | rfl | rfl <;> rcases hb' with rfl | rfl | rfl <;> decide
theorem z24 {ns:List GNt}(h:zok ns):ns.map GNt.name=(List.range ns.length).map fun k=>[110,zkf k]:=by
 apply List.ext_getElem
 ·simp
 ·intro i h1 h2
  simp only [List.getElem_map,List.getElem_range]
  exact (h i (by simpa using h1)).name
theorem zyz:∀ t,1 ≤ t→t ≤ 3→∀ n,1 ≤ n→n ≤ 4→zgq ((zkg t).map GTok.name++(List.range n).map fun k=>[110,zkf k])=true:=by
 intro t h1 h2 n h3 h4
 have ht:t=1 ∨ t=2 ∨ t=3:=by omega
 have hn:n=1 ∨ n=2 ∨ n=3 ∨ n=4:=by omega
 rcases ht with rfl | rfl | rfl <;> rcases hn with rfl | rfl | rfl | rfl <;> decide
theorem MadeG.gmay {g:Gram}(h:MadeG g):zh0 g=true:=by
 obtain ⟨t,h1,h2,h3⟩:=h.toks
 have h4:=h.n0; have h5:=h.n1; have h6:=h.p0; have h7:=h.p1
 have hl:g.toks.length=t:=by rw [h3,zhl]
 have b1:g.nts.any zhz=false:=by
  rw [List.any_eq_false]
  intro n hn
  obtain ⟨k,hk,rfl⟩:=List.getElem_of_mem hn
  simp [z6t (h.nts k hk)]
 have b2:zgq (g.toks.map GTok.name++g.nts.map GNt.name)=true:=by
  rw [h3,z24 h.nts]; exact zyz t h1 h2 _ h4 h5
 have b3:(g.prods.any fun p=>!zd5 g p)=false:=by
  rw [List.any_eq_false]
  intro p hp
  have m:=h.prods p hp
  have e1:((p.right.length:Int) ≤ 5):=by have:=m.right; omega
  have e2:(p.right.any fun s=>!zja g s)=false:=by
   rw [List.any_eq_false]
   intro s hs
   have:zja g s=true:=m.syms s hs
   simp [this]
  simp only [zd5,Ql m.l0,Ql m.l1,Ql e1,e2]
  simp
 have e1:(g.toks.length:Int) ≤ 8:=by omega
 have e2:(g.nts.length:Int) ≤ 8:=by omega
 have e3:(g.prods.length:Int) ≤ 16:=by omega
 have e4:1 ≤ g.toks.length:=by omega
 simp only [zh0,b1,b2,b3,Ql e1,Ql e2,Ql e3,Ql e4,Ql h4,Ql h6]
 rfl
theorem MadeG.amay {g:Gram}(h:MadeG g):ztg mt g=true:=by
 have b1:zlq g=true:=by
  unfold zlq
  cases hn:g.nts with
  | nil=>have:=h.n0; rw [hn] at this; simp at this
  | cons n r =>
   have h0:=h.nts 0 (by have:=h.n0; omega)
   have:=h0.first rfl
   simp only [hn,List.getElem_cons_zero] at this
   simp only [this]; rfl
 have b2:(g.prods.any fun p=>!zk5 mt g p)=false:=by
  rw [List.any_eq_false]
  intro p hp
  simp [h.prod hp]
 simp only [ztg,h.gmay,b1,b2]; rfl
open Go
def Zff (C:za0)(key:Nat)(h:List (Option Obj)):Option (List V)→Option (V × List (Option Obj))
 | some ds=>z0y h (C key ds [])
 | none=>none
theorem Zfg :
  (∀ (C:za0) (K:St→List Foot→Prop) (b:Nat) (dst:Option Nat) (key:Nat) (r:List CO) (j:Nat) (tm:List (Nat × V)) (hp:List (Option Obj)) (es:List Foot) (vs:List V),zvz C K b dst key r j tm hp es (some vs)=zjm C K b dst 0 r j tm hp es (zrb (za9 .lend C) (zbc hp) key 0 (b + j) (some vs))) ∧
  (∀ (C:za0) (key:Nat) (as:List V) (h:List (Option Obj)),za9 .lend C key as h=Zff C key h (zb1 (zbc h) as)) ∧
  (∀ (C:za0) (key:Nat) (h:List (Option Obj)) (ds:List V),Zff C key h (some ds)=z0y h (C key ds [])) ∧
  (∀ (h:List (Option Obj)) (x:Bool),z0y h (some (.d (.b x),[]))=some (.d (.b x),h)) ∧
  (∀ (obj:Nat→Option Obj) (a b c:D),zb1 obj [.agg [.d a,.d b,.d c]]=some [.agg [.d a,.d b,.d c]]) ∧
  (∀ (key:Nat) (as:List A),Cop.nmk (.lend key as)=0):=by
 refine ⟨fun _ _ _ _ _ _ _ _ _ _ _=>rfl, ?_,fun _ _ _ _=>rfl,fun _ _=>rfl,fun _ _ _ _=>rfl,fun _ _=>rfl⟩
 intro C key as h
 rw [z4w]
 cases zb1 (zbc h) as <;> rfl
end Ab
/-
 HCode: stands in GCode.
-/
