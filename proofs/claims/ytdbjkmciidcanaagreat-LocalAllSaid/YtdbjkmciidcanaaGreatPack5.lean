/-
 The equations, bundled: printed by a program of the workbench.
-/
import Derived.Test.YtdbjkmciidcanaaGreatPack4
import Derived.Test.YtdbjkmciidcanaaGreatPack3
set_option linter.unusedSimpArgs false
set_option linter.unusedVariables false
set_option linter.unusedSectionVars false
set_option linter.unnecessarySimpa false
namespace Ab
open Go
def evL (tm:List (Nat × V)):List A→List V
 | []=>[]
 | a :: r=>evT tm a :: evL tm r
theorem zju (tm:List (Nat × V)):∀ (as:List A),evL tm as=as.map (evT tm)
 | []=>rfl
 | a :: r=>by simp [evL,zju tm r]
def evP (tm:List (Nat × V))(ps:List (Nat × Nat × A)):List (Nat × Nat × V):=ps.map fun q=>(q.1,q.2.1,evT tm q.2.2)
def evI (tm:List (Nat × V))(ps:List (Nat × A)):List (Nat × V):=ps.map fun q=>(q.1,evT tm q.2)
def Zc8 (C:za0)(K:St→List Foot→Prop)(b d:Nat)(r:List CO)(j:Nat)(tm:List (Nat × V))(hp:List (Option Obj))(es:List Foot)(x:A)(v:V):Prop:=match v with
 | .map id=>zmr C K b (some d) (.len 0 x) r j tm hp es [id] none
 | v=>goV C K b d r j tm hp es [] (Znc v)
def Zne (C:za0)(K:St→List Foot→Prop)(b d:Nat)(r:List CO)(j:Nat)(tm:List (Nat × V))(hp:List (Option Obj))(es:List Foot)(x:A)(v:V):Prop:=match v with
 | .map id=>zmr C K b (some d) (.len 1 x) r j tm hp es [id] none
 | v=>goV C K b d r j tm hp es [] (Znd v)
def Znf (hp:List (Option Obj))(id:Nat):Option (List V)→Option (List (Option Obj))
 | some cs=>some (hp.set id (some (.box cs)))
 | none=>none
def z82 (cs:Option (List V))(r:List (Nat × Nat × V)):Option (List V):=match cs with | some cs=>ziw cs r | none=>none
def z83 (cs:List V)(o n:Nat)(c:Option (List V))(r:List (Nat × Nat × V)):Option (List V):=match c with
 | some c=>if c.length=n then z82 (over cs o c) r else none
 | none=>none
def z0v (sz:Nat)(xs:List (List D))(i:Nat)(r:List (Nat × V))(ds:Option (List D)):Option (List (List D)):=match ds with
 | some ds=>if ds.length=sz∧i < xs.length then zix sz (xs.set i ds) r else none
 | none=>none
def z84 (x:Option D)(r:Option (List D)):Option (List D):=match x,r with | some x,some r=>some (x :: r) | _,_=>none
def Zld (ag:Bool)(n off:Nat):Option Obj→Option V
 | some (.box cs)=>match asO ag n (zbn cs off n) with | some v=>v.hand | none=>none
 | _=>none
def Ziv (ag:Bool)(n:Nat)(hp:List (Option Obj)):V→Option V
 | .ptr id off=>match (hp[id]?).join with
  | some (.box cs)=>match zbn cs off n with
   | some c=>match ze7 ag n c with | some v=>v.hand | none=>none
   | none=>none
  | _=>none
 | _=>none
def Zc9:Option V→Option V
 | some v=>v.hand
 | none=>none
def z4t (x:Option V)(r:Option (List V)):Option (List V):=match x,r with | some x,some r=>some (x :: r) | _,_=>none
def Zda (o:Obj)(r:Option (List (Option Obj))):Option (List (Option Obj)):=match r with | some r=>some (some o :: r) | none=>none
def Zng (x:Option (List V)):Option V:=match x with | some x=>some (.agg x) | none=>none
theorem evW :
  (∀ (C:za0) (K:St→List Foot→Prop) (b j:Nat) (tm:List (Nat × V)) (hp:List (Option Obj)) (es:List Foot),go C K b [] j tm hp es=K ⟨tm,hp⟩ es.reverse) ∧
  (∀ C K b r j tm hp es (d p:Nat) (x:A),go C K b (⟨some d,.mv x,none,p⟩ :: r) j tm hp es=go C K b r j ((d,evT tm x) :: tm) hp (⟨[],false,b + j,0⟩ :: es)) ∧
  (∀ C K b r j tm hp es (d p:Nat) (op:BinOp) (x y:A),go C K b (⟨some d,.bin op x y,none,p⟩ :: r) j tm hp es=goV C K b d r j tm hp es [] (oD (binOp op (evT tm x) (evT tm y)))) ∧
  (∀ C K b r j tm hp es (d p:Nat) (op:UnOp) (x:A),go C K b (⟨some d,.un op x,none,p⟩ :: r) j tm hp es=goV C K b d r j tm hp es [] (oD (unOp op (evT tm x)))) ∧
  (∀ C K b r j tm hp es (d p:Nat) (x y z:A),go C K b (⟨some d,.pick x y z,none,p⟩ :: r) j tm hp es=goV C K b d r j tm hp es [] (z8c (evT tm x) (evT tm y) (evT tm z))) ∧
  (∀ C K b r j tm hp es (d p o:Nat) (x:A),go C K b (⟨some d,.fa o x,none,p⟩ :: r) j tm hp es=goV C K b d r j tm hp es [] (faV o (evT tm x))) ∧
  (∀ C K b r j tm hp es (d p:Nat) (ag:Bool) (o n:Nat) (x:A),go C K b (⟨some d,.fl ag o n x,none,p⟩ :: r) j tm hp es=goV C K b d r j tm hp es [] (flV ag o n (evT tm x))) ∧
  (∀ C K b r j tm hp es (d p:Nat) (x:A),go C K b (⟨some d,.nilc x,none,p⟩ :: r) j tm hp es=goV C K b d r j tm hp es [] (zt3 (evT tm x))) ∧
  (∀ C K b r j tm hp es (d p:Nat) (k:IntKind) (x:A),go C K b (⟨some d,.conv k x,none,p⟩ :: r) j tm hp es=goV C K b d r j tm hp es [] (z8f k (evT tm x))) ∧
  (∀ C K b r j tm hp es (d p i:Nat) (x:A),go C K b (⟨some d,.ext x i,none,p⟩ :: r) j tm hp es=goV C K b d r j tm hp es [] (Zin i (evT tm x))) ∧
  (∀ C K b r j tm hp es (d p:Nat) (ag:Bool) (n:Nat) (x:A),go C K b (⟨some d,.ld ag n x,none,p⟩ :: r) j tm hp es=goV C K b d r j tm hp es (zes (evT tm x)) (ldT ag n hp (evT tm x))) ∧
  (∀ C K b r j tm hp es (dst:Option Nat) (p n:Nat) (x y:A),go C K b (⟨dst,.st n x y,none,p⟩ :: r) j tm hp es=goH C K b dst r j tm es (zes (evT tm x)) (stT n hp (evT tm x) (evT tm y))) ∧
  (∀ C K b r j tm hp es (d p sz:Nat) (x y:A),go C K b (⟨some d,.ia sz x y,none,p⟩ :: r) j tm hp es=goV C K b d r j tm hp es (zbv (evT tm x)) (iaT sz hp (evT tm x) (evT tm y))) ∧
  (∀ C K b r j tm hp es (d p:Nat) (x:A),go C K b (⟨some d,.box x,none,p⟩ :: r) j tm hp es=goB C K b d r j tm hp es (evT tm x).cel) ∧
  (∀ C K b r j tm hp es (d p:Nat) (z:V),go C K b (⟨some d,.zero z,none,p⟩ :: r) j tm hp es=go C K b r (j + 1) ((d,.ptr (b + j) 0) :: tm) (hp.set (b + j) (some (.box z.cells))) (⟨[],false,b + j,1⟩ :: es)) ∧
  (∀ C K b r j tm hp es (d p:Nat) (x:A),go C K b (⟨some d,.len 0 x,none,p⟩ :: r) j tm hp es=Zc8 C K b d r j tm hp es x (evT tm x)) ∧
  (∀ C K b r j tm hp es (d p:Nat) (x:A),go C K b (⟨some d,.len 1 x,none,p⟩ :: r) j tm hp es=Zne C K b d r j tm hp es x (evT tm x)) ∧
  (∀ C K b r j tm hp es (d p:Nat) (z:List V) (ps:List (Nat × Nat × A)),go C K b (⟨some d,.build z ps,none,p⟩ :: r) j tm hp es=goV C K b d r j tm hp es [] (z0h (ziw z (evP tm ps)))) ∧
  (∀ C K b r j tm hp es (d p sz n:Nat) (z:List D) (ps:List (Nat × A)),go C K b (⟨some d,.bsl sz n z ps,none,p⟩ :: r) j tm hp es=goT C K b d sz r j tm hp es (zix sz (List.replicate n z) (evI tm ps))) ∧
  (∀ C K b r j tm hp es (dst:Option Nat) (p key res:Nat) (as:List A) (fz:Bool),go C K b (⟨dst,.call key as res fz,none,p⟩ :: r) j tm hp es=zjm C K b dst res r j tm hp es (zrb (za9 (zqs fz) C) (zbc hp) key res (b + j) (V.handAll (evL tm as)))) ∧
  (∀ C K b r j tm hp es (dst:Option Nat) (p res:Nat) (f:A) (as:List A) (fz:Bool),go C K b (⟨dst,.callv f as res fz,none,p⟩ :: r) j tm hp es=zp8 C K b dst res fz r j tm hp es (zik (evT tm f) (evL tm as))) ∧
  (∀ C K b r j tm hp es (dst:Option Nat) (op:Cop) (p t:Nat) (want:Bool),go C K b (⟨dst,op,some (t,want),p⟩ :: r) j tm hp es=goG C K b dst op p r j tm hp es (gd want (za1 tm t))) ∧
  (∀ C K b r j tm hp es (d:Nat) (ids:List Nat) (v:V),goV C K b d r j tm hp es ids (some v)=go C K b r j ((d,v) :: tm) hp (⟨ids,false,b + j,0⟩ :: es)) ∧
  (∀ C K b r j tm hp es (dst:Option Nat) (ids:List Nat),goH C K b dst r j tm es ids (some hp)=go C K b r j (z0g dst .undef tm) hp (⟨ids,true,b + j,0⟩ :: es)) ∧
  (∀ C K b r j tm hp es (d:Nat) (c:List V),goB C K b d r j tm hp es (some c)=go C K b r (j + 1) ((d,.ptr (b + j) 0) :: tm) (hp.set (b + j) (some (.box c))) (⟨[],false,b + j,1⟩ :: es)) ∧
  (∀ C K b r j tm hp es (d sz:Nat) (xs:List (List D)),goT C K b d sz r j tm hp es (some xs)=go C K b r (j + 1) ((d,.own (b + j) 0 sz xs) :: tm) (hp.set (b + j) (some (.tok 0 sz))) (⟨[],false,b + j,1⟩ :: es)) ∧
  (∀ C K b r j tm hp es (dst:Option Nat) (op:Cop) (p:Nat),goG C K b dst op p r j tm hp es (some true)=go C K b (⟨dst,op,none,p⟩ :: r) j tm hp es) ∧
  (∀ C K b r j tm hp es (dst:Option Nat) (op:Cop) (p:Nat),goG C K b dst op p r j tm hp es (some false)=go C K b r (j + op.nmk) (z0g dst .undef tm) hp (⟨[],false,b + j,0⟩ :: es)) ∧
  (∀ C K b r j tm hp es (dst:Option Nat) (n:Nat) (v:V) (is:List Nat) (os ns:List (Option Obj)),zjm C K b dst n r j tm hp es (some (v,is,os,ns))=go C K b r (j + n) (z0g dst v tm) (zar (zar hp is os) (List.range' (b + j) ns.length) ns) (⟨is,true,b + j,ns.length⟩ :: es)) ∧
  (∀ C K b r j tm hp es (dst:Option Nat) (res:Nat) (fz:Bool) (key:Nat) (as:List V),zp8 C K b dst res fz r j tm hp es (some (key,as))=zjm C K b dst res r j tm hp es (zrb (za9 (zqs fz) C) (zbc hp) key res (b + j) (V.handAll as))) ∧
  (∀ C K b r j tm hp es (d sz:Nat) (xs:List (List D)) (x:A),Zc8 C K b d r j tm hp es x (.d (.l sz xs))=go C K b r j ((d,.d (.i .i64 (xs.length:Int))) :: tm) hp (⟨[],false,b + j,0⟩ :: es)) ∧
  (∀ C K b r j tm hp es (d sz:Nat) (xs:List (List D)) (id ver:Nat) (x:A),Zc8 C K b d r j tm hp es x (.own id ver sz xs)=go C K b r j ((d,.d (.i .i64 (xs.length:Int))) :: tm) hp (⟨[],false,b + j,0⟩ :: es)) ∧
  (∀ C K b r j tm hp es (d sz:Nat) (x:A),Zc8 C K b d r j tm hp es x (.nil sz)=go C K b r j ((d,.d (.i .i64 (0:Int))) :: tm) hp (⟨[],false,b + j,0⟩ :: es)) ∧
  (∀ C K b r j tm hp es (d:Nat) (id ver off n:Nat) (x:A),Zc8 C K b d r j tm hp es x (.arr id ver off n)=go C K b r j ((d,.d (.i .i64 (n:Int))) :: tm) hp (⟨[],false,b + j,0⟩ :: es)) ∧
  (∀ C K b r j tm hp es (d:Nat) (x:A) (t:List UInt8),Zne C K b d r j tm hp es x (.d (.s t))=go C K b r j ((d,.d (.i .i64 t.length)) :: tm) hp (⟨[],false,b + j,0⟩ :: es)) ∧
  (∀ C K b r j tm hp es (d p sz bytes:Nat) (x y:A),go C K b (⟨some d,.app sz bytes x y,none,p⟩ :: r) j tm hp es=goA C K b d sz bytes r j tm hp es (evT tm x) (zet sz (evT tm y))) ∧
  (∀ C K b r j tm hp es (d sz bytes sz':Nat) (ys:List (List D)),goA C K b d sz bytes r j tm hp es (.nil sz') (some ys)=(za4 ys.length bytes=true∧go C K b r (j + 1) ((d,.own (b + j) 0 sz ys) :: tm) (hp.set (b + j) (some (.tok 0 sz))) (⟨[],true,b + j,1⟩ :: es))) ∧
  (∀ C K b r j tm hp es (d sz bytes id ver sz':Nat) (xs ys:List (List D)),goA C K b d sz bytes r j tm hp es (.own id ver sz' xs) (some ys)=Zio C K b d sz bytes r j tm hp es id ver sz' xs ys (zbc hp id)) ∧
  (∀ C K b r j tm hp es (d sz bytes id ver sz' v s:Nat) (xs ys:List (List D)),Zio C K b d sz bytes r j tm hp es id ver sz' xs ys (some (.tok v s))=((ver=v∧sz'=sz∧s=sz∧za4 (xs.length + ys.length) bytes=true)∧go C K b r (j + 1) ((d,.own id (ver + 1) sz (xs++ys)) :: tm) (hp.set id (some (.tok (ver + 1) sz))) (⟨[id],true,b + j,0⟩ :: es))) ∧
  (∀ C K b r j tm hp es (d p sz:Nat) (x:A),go C K b (⟨some d,.slc sz x none none,none,p⟩ :: r) j tm hp es=goV C K b d r j tm hp es (zbv (evT tm x)) (zn7 sz hp (evT tm x) none none)) ∧
  (∀ C K b r j tm hp es (d p sz:Nat) (x lo:A),go C K b (⟨some d,.slc sz x (some lo) none,none,p⟩ :: r) j tm hp es=goV C K b d r j tm hp es (zbv (evT tm x)) (zn7 sz hp (evT tm x) (some (evT tm lo)) none)) ∧
  (∀ C K b r j tm hp es (d p sz:Nat) (x hi:A),go C K b (⟨some d,.slc sz x none (some hi),none,p⟩ :: r) j tm hp es=goV C K b d r j tm hp es (zbv (evT tm x)) (zn7 sz hp (evT tm x) none (some (evT tm hi)))) ∧
  (∀ C K b r j tm hp es (d p sz:Nat) (x lo hi:A),go C K b (⟨some d,.slc sz x (some lo) (some hi),none,p⟩ :: r) j tm hp es=goV C K b d r j tm hp es (zbv (evT tm x)) (zn7 sz hp (evT tm x) (some (evT tm lo)) (some (evT tm hi)))) ∧
  (∀ C K b r j tm hp es (d p:Nat) (neg:Bool) (x y:A),go C K b (⟨some d,.eqb neg x y,none,p⟩ :: r) j tm hp es=goV C K b d r j tm hp es [] (Zau neg (evT tm x) (evT tm y))) ∧
  (∀ C K b r j tm hp es (d p:Nat) (neg:Bool) (x:A),go C K b (⟨some d,.nils neg x,none,p⟩ :: r) j tm hp es=goV C K b d r j tm hp es [] (zt4 neg (evT tm x))) ∧
  (∀ C K b r j tm hp es (d p:Nat) (x y:A),go C K b (⟨some d,.ixs x y,none,p⟩ :: r) j tm hp es=goV C K b d r j tm hp es [] (Ziq (evT tm x) (evT tm y))) ∧
  (∀ C K b r j tm hp es (d p:Nat) (x lo:A),go C K b (⟨some d,.sls x (some lo) none,none,p⟩ :: r) j tm hp es=goV C K b d r j tm hp es [] (z27 (some (evT tm lo)) none (evT tm x))) ∧
  (∀ C K b r j tm hp es (d p:Nat) (x hi:A),go C K b (⟨some d,.sls x none (some hi),none,p⟩ :: r) j tm hp es=goV C K b d r j tm hp es [] (z27 none (some (evT tm hi)) (evT tm x))) ∧
  (∀ C K b r j tm hp es (d p:Nat) (x lo hi:A),go C K b (⟨some d,.sls x (some lo) (some hi),none,p⟩ :: r) j tm hp es=goV C K b d r j tm hp es [] (z27 (some (evT tm lo)) (some (evT tm hi)) (evT tm x))) ∧
  (∀ C K b r j tm hp es (d p:Nat) (x:A),go C K b (⟨some d,.bts x,none,p⟩ :: r) j tm hp es=goV C K b d r j tm hp es [] (Zk0 (zh9 (evT tm x)))) ∧
  (∀ C K b r j tm hp es (d p sz bytes:Nat) (z:List D) (ow:Bool) (x y:A),go C K b (⟨some d,.mks sz bytes z ow x y,none,p⟩ :: r) j tm hp es=goN C K b d r j tm hp es (Zb3 sz bytes (b + j) z ow (evT tm x) (evT tm y))) ∧
  (∀ C K b r j tm hp es (d:Nat) (v:V) (o:Obj),goN C K b d r j tm hp es (some (v,o))=go C K b r (j + 1) ((d,v) :: tm) (hp.set (b + j) (some o)) (⟨[],false,b + j,1⟩ :: es)):=by
 refine ⟨?_, ?_, ?_, ?_, ?_, ?_, ?_, ?_, ?_, ?_, ?_, ?_, ?_, ?_, ?_, ?_, ?_, ?_, ?_, ?_, ?_, ?_, ?_, ?_, ?_, ?_, ?_, ?_, ?_, ?_, ?_, ?_, ?_, ?_, ?_, ?_, ?_, ?_, ?_, ?_, ?_, ?_, ?_, ?_, ?_, ?_, ?_, ?_, ?_, ?_, ?_, ?_⟩
 ·intro C K b j tm hp es; exact rfl
 ·intro C K b r j tm hp es d p x; exact Zkq ..
 ·intro C K b r j tm hp es d p op x y; exact Zbs ..
 ·intro C K b r j tm hp es d p op x; exact Zkr ..
 ·intro C K b r j tm hp es d p x y z; exact z8d ..
 ·intro C K b r j tm hp es d p o x; exact Zks ..
 ·intro C K b r j tm hp es d p ag o n x; exact Zkt ..
 ·intro C K b r j tm hp es d p x; exact z8e ..
 ·intro C K b r j tm hp es d p k x; exact z8g ..
 ·intro C K b r j tm hp es d p i x; exact Zbt ..
 ·intro C K b r j tm hp es d p ag n x; exact Zku ..
 ·intro C K b r j tm hp es dst p n x y; exact Zkv ..
 ·intro C K b r j tm hp es d p sz x y; exact Zkw ..
 ·intro C K b r j tm hp es d p x; exact Zbv ..
 ·intro C K b r j tm hp es d p z; exact z8h ..
 ·intro C K b r j tm hp es d p x; exact z8i ..
 ·intro C K b r j tm hp es d p x; exact z8j ..
 ·intro C K b r j tm hp es d p z ps; exact z30 ..
 ·intro C K b r j tm hp es d p sz n z ps; exact Zbw ..
 ·intro C K b r j tm hp es dst p key res as fz; rw [zju]; exact z8b ..
 ·intro C K b r j tm hp es dst p res f as fz; rw [zju]; exact z3z ..
 ·intro C K b r j tm hp es dst op p t want; exact z3x ..
 ·intro C K b r j tm hp es d ids v; exact rfl
 ·intro C K b r j tm hp es dst ids; exact rfl
 ·intro C K b r j tm hp es d c; exact rfl
 ·intro C K b r j tm hp es d sz xs; exact rfl
 ·intro C K b r j tm hp es dst op p; exact rfl
 ·intro C K b r j tm hp es dst op p; exact rfl
 ·intro C K b r j tm hp es dst n v is os ns; exact rfl
 ·intro C K b r j tm hp es dst res fz key as; exact rfl
 ·intro C K b r j tm hp es d sz xs x; exact rfl
 ·intro C K b r j tm hp es d sz xs id ver x; exact rfl
 ·intro C K b r j tm hp es d sz x; exact rfl
 ·intro C K b r j tm hp es d id ver off n x; exact rfl
 ·intro C K b r j tm hp es d x t; exact rfl
 ·intro C K b r j tm hp es d p sz bytes x y; exact Zbx ..
 ·intro C K b r j tm hp es d sz bytes sz' ys; exact rfl
 ·intro C K b r j tm hp es d sz bytes id ver sz' xs ys; exact rfl
 ·intro C K b r j tm hp es d sz bytes id ver sz' v s xs ys; exact rfl
 ·intro C K b r j tm hp es d p sz x; exact z33 ..
 ·intro C K b r j tm hp es d p sz x lo; exact z34 ..
 ·intro C K b r j tm hp es d p sz x hi; exact z35 ..
 ·intro C K b r j tm hp es d p sz x lo hi; exact z36 ..
 ·intro C K b r j tm hp es d p neg x y; exact Zbz ..
 ·intro C K b r j tm hp es d p neg x; exact z8m ..
 ·intro C K b r j tm hp es d p x y; exact Zb0 ..
 ·intro C K b r j tm hp es d p x lo; exact z37 ..
 ·intro C K b r j tm hp es d p x hi; exact z38 ..
 ·intro C K b r j tm hp es d p x lo hi; exact z39 ..
 ·intro C K b r j tm hp es d p x; exact Zb1 ..
 ·intro C K b r j tm hp es d p sz bytes z ow x y; exact Zb4 ..
 ·intro C K b r j tm hp es d v o; exact rfl
theorem evX :
  (∀ (tm:List (Nat × V)) (i:Nat),evT tm (.t i)=za1 tm i) ∧
  (∀ (tm:List (Nat × V)) (x:V),evT tm (.k x)=x) ∧
  (∀ (i:Nat) (x:V) (tm:List (Nat × V)) (k:Nat),za1 ((i,x) :: tm) k=if i=k then x else za1 tm k) ∧
  (∀ (tm:List (Nat × V)),evL tm []=[]) ∧
  (∀ (tm:List (Nat × V)) (a:A) (r:List A),evL tm (a :: r)=evT tm a :: evL tm r) ∧
  (∀ (tm:List (Nat × V)),evP tm []=[]) ∧
  (∀ (tm:List (Nat × V)) (o n:Nat) (a:A) (r:List (Nat × Nat × A)),evP tm ((o,n,a) :: r)=(o,n,evT tm a) :: evP tm r) ∧
  (∀ (tm:List (Nat × V)),evI tm []=[]) ∧
  (∀ (tm:List (Nat × V)) (o:Nat) (a:A) (r:List (Nat × A)),evI tm ((o,a) :: r)=(o,evT tm a) :: evI tm r) ∧
  (∀ (x:V) (tm:List (Nat × V)) (d:Nat),z0g (some d) x tm=(d,x) :: tm) ∧
  (∀ (x:V) (tm:List (Nat × V)),z0g none x tm=tm) ∧
  (∀ (x w:Bool),gd w (.d (.b x))=some (x == w)) ∧
  (∀ (w:Bool),gd w (.tup [])=some false) ∧
  (∀ (w:Bool),gd w V.undef=some false) ∧
  (∀ (x:D),oD (some x)=some (.d x)) ∧
  (∀ (x y:Bool),Zau false (.d (.b x)) (.d (.b y))=some (.d (.b (decide (x=y))))) ∧
  (∀ (x y:Bool),Zau true (.d (.b x)) (.d (.b y))=some (.d (.b (decide (¬ x=y))))) ∧
  (∀ (n:Nat),zt4 false (.nil n)=some (.d (.b true))) ∧
  (∀ (n:Nat),zt4 true (.nil n)=some (.d (.b false))) ∧
  (∀ (n:Nat) (x:List D) (r:List (List D)),zt4 false (.d (.l n (x :: r)))=some (.d (.b false))) ∧
  (∀ (n:Nat) (x:List D) (r:List (List D)),zt4 true (.d (.l n (x :: r)))=some (.d (.b true))) ∧
  (∀ (x:List UInt8) (k:IntKind) (i:Int),Ziq (.d (.s x)) (.d (.i k i))=if 0 ≤ i then ixO x[i.toNat]? else none) ∧
  (∀ (c:UInt8),ixO (some c)=some (.d (.i .u8 c.toNat))) ∧
  (∀ (lo hi:Option V) (x:List UInt8),z27 lo hi (.d (.s x))=Zkz x (zbi lo hi x.length)) ∧
  (∀ (x:List UInt8) (l h:Nat),Zkz x (some (l,h))=some (.d (.s ((x.take h).drop l)))) ∧
  (∀ (b:List UInt8),Zk0 (some b)=some (.d (.s b))) ∧
  (∀ (xs:List (List D)),zh9 (.d (.l 1 xs))=zdx xs) ∧
  (∀ (id ver:Nat) (xs:List (List D)),zh9 (.own id ver 1 xs)=zdx xs) ∧
  (∀ (n:Nat),zh9 (.nil n)=some []) ∧
  (zdx []=some []) ∧
  (∀ (n:Int) (r:List (List D)),zdx ([.i .u8 n] :: r)=Zk1 n (zdx r)) ∧
  (∀ (n:Int) (b:List UInt8),Zk1 n (some b)=some (UInt8.ofNat n.toNat :: b)) ∧
  (∀ (sz bytes fresh:Nat) (z:List D) (k k':IntKind) (l c:Int),Zb3 sz bytes fresh z true (.d (.i k l)) (.d (.i k' c))=if 0 ≤ l∧l ≤ c∧za4 c.toNat bytes=true then some (.own fresh 0 sz (Zb2 l.toNat z),.tok 0 sz) else none) ∧
  (∀ (n:Nat),zdx (Zb2 n [.i .u8 0])=some (Zk2 n)) ∧
  (∀ (k:IntKind) (x y:Int),binOp .add (.d (.i k x)) (.d (.i k y))=some (.i k (k.wrap (x + y)))) ∧
  (∀ (k:IntKind) (x y:Int),binOp .sub (.d (.i k x)) (.d (.i k y))=some (.i k (k.wrap (x - y)))) ∧
  (∀ (k:IntKind) (x y:Int),binOp .mul (.d (.i k x)) (.d (.i k y))=some (.i k (k.wrap (x * y)))) ∧
  (∀ (k:IntKind) (x y:Int),binOp .quo (.d (.i k x)) (.d (.i k y))=if y=0 then none else some (.i k (k.wrap (x.tdiv y)))) ∧
  (∀ (k:IntKind) (x y:Int),binOp .rem (.d (.i k x)) (.d (.i k y))=if y=0 then none else some (.i k (x.tmod y))) ∧
  (∀ (k:IntKind) (x y:Int),binOp .eql (.d (.i k x)) (.d (.i k y))=some (.b (decide (x=y)))) ∧
  (∀ (k:IntKind) (x y:Int),binOp .neq (.d (.i k x)) (.d (.i k y))=some (.b (decide (¬ x=y)))) ∧
  (∀ (k:IntKind) (x y:Int),binOp .lss (.d (.i k x)) (.d (.i k y))=some (.b (decide (x < y)))) ∧
  (∀ (k:IntKind) (x y:Int),binOp .leq (.d (.i k x)) (.d (.i k y))=some (.b (decide (x ≤ y)))) ∧
  (∀ (k:IntKind) (x y:Int),binOp .gtr (.d (.i k x)) (.d (.i k y))=some (.b (decide (y < x)))) ∧
  (∀ (k:IntKind) (x y:Int),binOp .geq (.d (.i k x)) (.d (.i k y))=some (.b (decide (y ≤ x)))) ∧
  (∀ (x y:List UInt8),binOp .eql (.d (.s x)) (.d (.s y))=some (.b (decide (x=y)))) ∧
  (∀ (x y:List UInt8),binOp .neq (.d (.s x)) (.d (.s y))=some (.b (decide (¬ x=y)))) ∧
  (∀ (x y:List UInt8),binOp .lss (.d (.s x)) (.d (.s y))=some (.b (bytesLess x y))) ∧
  (∀ (x y:List UInt8),binOp .leq (.d (.s x)) (.d (.s y))=some (.b (bytesLess x y || x == y))) ∧
  (∀ (x y:List UInt8),binOp .gtr (.d (.s x)) (.d (.s y))=some (.b (!(bytesLess x y || x == y)))) ∧
  (∀ (x y:List UInt8),binOp .geq (.d (.s x)) (.d (.s y))=some (.b (!bytesLess x y))) ∧
  (∀ (x y:List UInt8),binOp .add (.d (.s x)) (.d (.s y))=if x.length + y.length ≤ 4611686018427387904 then some (.s (x++y)) else none) ∧
  (∀ (x:Bool),unOp .not (.d (.b x))=some (.b (!x))) ∧
  (∀ (k:IntKind) (x:Int),unOp .neg (.d (.i k x))=some (.i k (k.wrap (-x)))) ∧
  (∀ (c:Bool) (x y:V),z8c (.d (.b c)) x y=some (if c then x else y)) ∧
  (∀ (o id q:Nat),faV o (.ptr id q)=some (.ptr id (q + o))) ∧
  (∀ (o id ver idx q:Nat),faV o (.pm id ver idx q)=some (.pm id ver idx (q + o))) ∧
  (∀ (o:Nat) (ds:List D) (q:Nat),faV o (.d (.q ds q))=some (.d (.q ds (q + o)))) ∧
  (∀ (ag:Bool) (o n:Nat) (cs:List V),flV ag o n (.agg cs)=asO ag n (zbn cs o n)) ∧
  (∀ (id q:Nat),zt3 (.ptr id q)=some (.ptr id q)) ∧
  (∀ (id ver idx q:Nat),zt3 (.pm id ver idx q)=some (.pm id ver idx q)) ∧
  (∀ (ds:List D) (q:Nat),zt3 (.d (.q ds q))=some (.d (.q ds q))) ∧
  (∀ (k:Nat) (a c:List D),zt3 (.d (.f k a c))=some (.d (.f k a c))) ∧
  (∀ (k:Nat) (a c:List V),zt3 (.fn k a c)=some (.fn k a c)) ∧
  (∀ (k k':IntKind) (n:Int),z8f k (.d (.i k' n))=some (.d (.i k (k.wrap n)))) ∧
  (∀ (i:Nat) (ws:List V),Zin i (.tup ws)=ws[i]?) ∧
  (∀ (x:V),asO false 1 (some [x])=some x) ∧
  (∀ (n:Nat) (cs:List V),asO true n (some cs)=if cs.length=n then some (.agg cs) else none) ∧
  (∀ (cs:List V),zbn cs 0 cs.length=some cs) ∧
  (∀ (x:V) (r:List V),zbn (x :: r) 0 1=some [x]) ∧
  (∀ (x:V) (r:List V) (o n:Nat),zbn (x :: r) (o + 1) n=zbn r o n) ∧
  (∀ (x y:V) (r:List V),zbn (x :: y :: r) 0 2=some [x,y]) ∧
  (∀ (x y z:V) (r:List V),zbn (x :: y :: z :: r) 0 3=some [x,y,z]) ∧
  (∀ (x y z u:V) (r:List V),zbn (x :: y :: z :: u :: r) 0 4=some [x,y,z,u]) ∧
  (ofDs []=[]) ∧
  (∀ (x:D) (r:List D),ofDs (x :: r) = .d x :: ofDs r) ∧
  (∀ (hp:List (Option Obj)) (ag:Bool) (n id off:Nat),ldT ag n hp (.ptr id off)=ldO ag n off (zbc hp id)) ∧
  (∀ (hp:List (Option Obj)) (ag:Bool) (n:Nat) (ds:List D) (off:Nat),ldT ag n hp (.d (.q ds off))=asO ag n (zbn (ofDs ds) off n)) ∧
  (∀ (hp:List (Option Obj)) (ag:Bool) (n id ver idx off:Nat),ldT ag n hp (.pm id ver idx off)=ldA ag n ver idx off (zbc hp id)) ∧
  (∀ (ag:Bool) (n off:Nat) (cs:List V),ldO ag n off (some (.box cs))=asO ag n (zbn cs off n)) ∧
  (∀ (ag:Bool) (n off:Nat) (cs:List D),ldO ag n off (some (.cst cs))=asO ag n (zbn (ofDs cs) off n)) ∧
  (∀ (ag:Bool) (n ver idx off sz:Nat) (xs:List (List V)),ldA ag n ver idx off (some (.arr ver sz xs))=ldR ag n off xs[idx]?) ∧
  (∀ (ag:Bool) (n off:Nat) (row:List V),ldR ag n off (some row)=asO ag n (zbn row off n)) ∧
  (∀ (o:Option Obj) (r:List (Option Obj)),zbc (o :: r) 0=o) ∧
  (∀ (o:Option Obj) (r:List (Option Obj)) (i:Nat),zbc (o :: r) (i + 1)=zbc r i) ∧
  (∀ (id off:Nat),zes (.ptr id off)=[id]) ∧
  (∀ (id ver idx off:Nat),zes (.pm id ver idx off)=[id]) ∧
  (∀ (x:D),zes (.d x)=[]) ∧
  (∀ (hp:List (Option Obj)) (n id off:Nat) (x:V),stT n hp (.ptr id off) x=stO n id off hp x.cel (zbc hp id)) ∧
  (∀ (hp:List (Option Obj)) (n id ver idx off:Nat) (x:V),stT n hp (.pm id ver idx off) x=stA n id ver idx off hp x.cel (zbc hp id)) ∧
  (∀ (hp:List (Option Obj)) (n id off:Nat) (c cs:List V),stO n id off hp (some c) (some (.box cs))=if c.length=n then Znf hp id (over cs off c) else none) ∧
  (∀ (hp:List (Option Obj)) (id:Nat) (cs:List V),Znf hp id (some cs)=some (hp.set id (some (.box cs)))) ∧
  (∀ (cs c:List V) (off:Nat),over cs off c=if off + c.length ≤ cs.length then some (cs.take off++c++cs.drop (off + c.length)) else none) ∧
  (∀ (id ver off len:Nat),zbv (.arr id ver off len)=[id]) ∧
  (∀ (x:D),zbv (.d x)=[]) ∧
  (∀ (id ver sz:Nat) (xs:List (List D)),zbv (.own id ver sz xs)=[]) ∧
  (∀ (hp:List (Option Obj)) (sz:Nat) (xs:List (List D)) (k:IntKind) (i:Int),iaT sz hp (.d (.l sz xs)) (.d (.i k i))=if 0 ≤ i then Zbu xs[i.toNat]? else none) ∧
  (∀ (hp:List (Option Obj)) (id ver sz:Nat) (xs:List (List D)) (k:IntKind) (i:Int),iaT sz hp (.own id ver sz xs) (.d (.i k i))=if 0 ≤ i then Zbu xs[i.toNat]? else none) ∧
  (∀ (hp:List (Option Obj)) (sz id ver off len:Nat) (k:IntKind) (i:Int),iaT sz hp (.arr id ver off len) (.d (.i k i))=iaO sz id ver off len i (zbc hp id)) ∧
  (∀ (sz id ver off len:Nat) (i:Int) (xs:List (List V)),iaO sz id ver off len i (some (.arr ver sz xs))=if 0 ≤ i∧i < len then some (.pm id ver (off + i.toNat) 0) else none) ∧
  (∀ (r:List D),Zbu (some r)=some (.d (.q r 0))) ∧
  (∀ (cs:List V),V.cel (.agg cs)=some cs) ∧
  (∀ (x:D),V.cel (.d x)=some [.d x]) ∧
  (∀ (sz:Nat),V.cel (.nil sz)=some [.nil sz]) ∧
  (∀ (id ver sz:Nat) (xs:List (List D)),V.cel (.own id ver sz xs)=some [.own id ver sz xs]) ∧
  (∀ (id ver off len:Nat),V.cel (.arr id ver off len)=some [.arr id ver off len]) ∧
  (∀ (id off:Nat),V.cel (.ptr id off)=some [.ptr id off]) ∧
  (∀ (id:Nat),V.cel (.map id)=some [.map id]) ∧
  (∀ (k:Nat) (a c:List V),V.cel (.fn k a c)=some [.fn k a c]) ∧
  (∀ (cs:List V),V.cells (.agg cs)=cs) ∧
  (∀ (x:D),V.cells (.d x)=[.d x]) ∧
  (∀ (sz:Nat),V.cells (.nil sz)=[.nil sz]) ∧
  (∀ (id ver sz:Nat) (xs:List (List D)),V.cells (.own id ver sz xs)=[.own id ver sz xs]) ∧
  (∀ (cs:List V),z0h (some cs)=some (.agg cs)) ∧
  (∀ (cs:List V),ziw cs []=some cs) ∧
  (∀ (cs:List V) (o n:Nat) (x:V) (r:List (Nat × Nat × V)),ziw cs ((o,n,x) :: r)=z83 cs o n x.cel r) ∧
  (∀ (cs c:List V) (o n:Nat) (r:List (Nat × Nat × V)),z83 cs o n (some c) r=if c.length=n then z82 (over cs o c) r else none) ∧
  (∀ (cs:List V) (r:List (Nat × Nat × V)),z82 (some cs) r=ziw cs r) ∧
  (∀ (sz:Nat) (xs:List (List D)),zix sz xs []=some xs) ∧
  (∀ (sz:Nat) (xs:List (List D)) (i:Nat) (x:V) (r:List (Nat × V)),zix sz xs ((i,x) :: r)=z0v sz xs i r (V.toDs x.cells)) ∧
  (∀ (sz:Nat) (xs:List (List D)) (i:Nat) (ds:List D) (r:List (Nat × V)),z0v sz xs i r (some ds)=if ds.length=sz∧i < xs.length then zix sz (xs.set i ds) r else none) ∧
  (∀ (x:D),V.toD (.d x)=some x) ∧
  (∀ (sz:Nat),V.toD (.nil sz)=some (.l sz [])) ∧
  (∀ (id ver sz:Nat) (xs:List (List D)),V.toD (.own id ver sz xs)=some (.l sz xs)) ∧
  (V.toDs []=some []) ∧
  (∀ (x:V) (r:List V),V.toDs (x :: r)=z84 (V.toD x) (V.toDs r)) ∧
  (∀ (x:D) (r:List D),z84 (some x) (some r)=some (x :: r)) ∧
  (∀ (hp:List (Option Obj)) (sz:Nat) (xs:List (List D)) (lo hi:Option V),zn7 sz hp (.d (.l sz xs)) lo hi=Zkx sz xs (zbi lo hi xs.length)) ∧
  (∀ (hp:List (Option Obj)) (id ver off len sz:Nat) (lo hi:Option V),zn7 sz hp (.arr id ver off len) lo hi=Zip sz id ver off (zbi lo hi len) (zbc hp id)) ∧
  (∀ (id ver off sz v l h:Nat) (xs:List (List V)),Zip sz id ver off (some (l,h)) (some (.arr v sz xs))=some (.arr id ver (off + l) (h - l))) ∧
  (∀ (hp:List (Option Obj)) (id ver sz:Nat) (xs:List (List D)) (lo hi:Option V),zn7 sz hp (.own id ver sz xs) lo hi=Zky id ver sz xs (zbi lo hi xs.length)) ∧
  (∀ (sz l h:Nat) (xs:List (List D)),Zkx sz xs (some (l,h))=some (.d (.l sz ((xs.take h).drop l)))) ∧
  (∀ (id ver sz l h:Nat) (xs:List (List D)),Zky id ver sz xs (some (l,h))=if h=xs.length then some (.own id ver sz (xs.drop l)) else some (.d (.l sz ((xs.take h).drop l)))) ∧
  (∀ (n:Nat),zbi none none n=some (0,n)) ∧
  (∀ (n:Nat) (k:IntKind) (x:Int),zbi none (some (.d (.i k x))) n=if 0 ≤ x∧x ≤ n then some (0,x.toNat) else none) ∧
  (∀ (n:Nat) (k:IntKind) (x:Int),zbi (some (.d (.i k x))) none n=if 0 ≤ x∧x ≤ n then some (x.toNat,n) else none) ∧
  (∀ (n:Nat) (k k':IntKind) (x y:Int),zbi (some (.d (.i k x))) (some (.d (.i k' y))) n=if 0 ≤ x∧x ≤ y∧y ≤ n then some (x.toNat,y.toNat) else none) ∧
  (∀ (sz:Nat) (ys:List (List D)),zet sz (.d (.l sz ys))=some ys) ∧
  (∀ (id ver sz:Nat) (ys:List (List D)),zet sz (.own id ver sz ys)=some ys) ∧
  (∀ (sz s:Nat),zet sz (.nil s)=some []):=by
 refine ⟨?_, ?_, ?_, ?_, ?_, ?_, ?_, ?_, ?_, ?_, ?_, ?_, ?_, ?_, ?_, ?_, ?_, ?_, ?_, ?_, ?_, ?_, ?_, ?_, ?_, ?_, ?_, ?_, ?_, ?_, ?_, ?_, ?_, ?_, ?_, ?_, ?_, ?_, ?_, ?_, ?_, ?_, ?_, ?_, ?_, ?_, ?_, ?_, ?_, ?_, ?_, ?_, ?_, ?_, ?_, ?_, ?_, ?_, ?_, ?_, ?_, ?_, ?_, ?_, ?_, ?_, ?_, ?_, ?_, ?_, ?_, ?_, ?_, ?_, ?_, ?_, ?_, ?_, ?_, ?_, ?_, ?_, ?_, ?_, ?_, ?_, ?_, ?_, ?_, ?_, ?_, ?_, ?_, ?_, ?_, ?_, ?_, ?_, ?_, ?_, ?_, ?_, ?_, ?_, ?_, ?_, ?_, ?_, ?_, ?_, ?_, ?_, ?_, ?_, ?_, ?_, ?_, ?_, ?_, ?_, ?_, ?_, ?_, ?_, ?_, ?_, ?_, ?_, ?_, ?_, ?_, ?_, ?_, ?_, ?_, ?_, ?_, ?_, ?_, ?_⟩
 ·intro tm i; exact rfl
 ·intro tm x; exact rfl
 ·intro i x tm k; exact rfl
 ·intro tm; exact rfl
 ·intro tm a r; exact rfl
 ·intro tm; exact rfl
 ·intro tm o n a r; exact rfl
 ·intro tm; exact rfl
 ·intro tm o a r; exact rfl
 ·intro x tm d; exact rfl
 ·intro x tm; exact rfl
 ·intro x w; exact rfl
 ·intro w; exact rfl
 ·intro w; exact rfl
 ·intro x; exact rfl
 ·intro x y; exact z8k ..
 ·intro x y; exact z8l ..
 ·intro n; exact rfl
 ·intro n; exact rfl
 ·intro n x r; exact rfl
 ·intro n x r; exact rfl
 ·intro x k i; exact rfl
 ·intro c; exact rfl
 ·intro lo hi x; exact rfl
 ·intro x l h; exact rfl
 ·intro b; exact rfl
 ·intro xs; exact rfl
 ·intro id ver xs; exact rfl
 ·intro n; exact rfl
 ·exact rfl
 ·intro n r; exact zms ..
 ·intro n b; exact rfl
 ·intro sz bytes fresh z k k' l c; simp [Zb3,Zb2]
 ·intro n; exact zo2 n
 ·intro k x y; simp [binOp,zb5,zdv]
 ·intro k x y; simp [binOp,zb5,zdv]
 ·intro k x y; simp [binOp,zb5,zdv]
 ·intro k x y; simp [binOp,zb5,zdv]
 ·intro k x y; simp [binOp,zb5,zdv]
 ·intro k x y; simp only [binOp,zb5,zdv,if_true,Qm,if_false]; by_cases h:x=y <;> simp [h]
 ·intro k x y; simp only [binOp,zb5,zdv,if_true,Qm,if_false]; by_cases h:x=y <;> simp [h]
 ·intro k x y; simp [binOp,zb5,zdv]
 ·intro k x y; simp [binOp,zb5,zdv]
 ·intro k x y; simp [binOp,zb5,zdv]
 ·intro k x y; simp [binOp,zb5,zdv]
 ·intro x y; simp only [binOp,zsr]; by_cases h:x=y <;> simp [h]
 ·intro x y; simp only [binOp,zsr]; by_cases h:x=y <;> simp [h]
 ·intro x y; exact rfl
 ·intro x y; exact rfl
 ·intro x y; exact rfl
 ·intro x y; exact rfl
 ·intro x y; exact rfl
 ·intro x; exact rfl
 ·intro k x; exact rfl
 ·intro c x y; exact rfl
 ·intro o id q; exact rfl
 ·intro o id ver idx q; exact rfl
 ·intro o ds q; exact rfl
 ·intro ag o n cs; exact rfl
 ·intro id q; exact rfl
 ·intro id ver idx q; exact rfl
 ·intro ds q; exact rfl
 ·intro k a c; exact rfl
 ·intro k a c; exact rfl
 ·intro k k' n; exact rfl
 ·intro i ws; exact rfl
 ·intro x; exact rfl
 ·intro n cs; exact rfl
 ·intro cs; simp [zbn]
 ·intro x r; simp [zbn]
 ·intro x r o n; simp [zbn,Nat.add_right_comm]
 ·intro x y r; simp [zbn]
 ·intro x y z r; simp [zbn]
 ·intro x y z u r; simp [zbn]
 ·exact rfl
 ·intro x r; exact rfl
 ·intro hp ag n id off; exact rfl
 ·intro hp ag n ds off; exact rfl
 ·intro hp ag n id ver idx off; exact rfl
 ·intro ag n off cs; exact rfl
 ·intro ag n off cs; exact rfl
 ·intro ag n ver idx off sz xs; simp [ldA]
 ·intro ag n off row; exact rfl
 ·intro o r; simp [zbc]
 ·intro o r i; simp [zbc]
 ·intro id off; exact rfl
 ·intro id ver idx off; exact rfl
 ·intro x; exact rfl
 ·intro hp n id off x; exact rfl
 ·intro hp n id ver idx off x; exact rfl
 ·intro hp n id off c cs; simp only [stO]; by_cases hc:c.length=n <;> simp only [hc,if_true,if_false] <;> cases over cs off c <;> rfl
 ·intro hp id cs; exact rfl
 ·intro cs c off; exact rfl
 ·intro id ver off len; exact rfl
 ·intro x; exact rfl
 ·intro id ver sz xs; exact rfl
 ·intro hp sz xs k i; simp [iaT]
 ·intro hp id ver sz xs k i; simp [iaT]
 ·intro hp sz id ver off len k i; exact rfl
 ·intro sz id ver off len i xs; simp [iaO]
 ·intro r; exact rfl
 ·intro cs; exact rfl
 ·intro x; exact rfl
 ·intro sz; exact rfl
 ·intro id ver sz xs; exact rfl
 ·intro id ver off len; exact rfl
 ·intro id off; exact rfl
 ·intro id; exact rfl
 ·intro k a c; exact rfl
 ·intro cs; exact rfl
 ·intro x; exact rfl
 ·intro sz; exact rfl
 ·intro id ver sz xs; exact rfl
 ·intro cs; exact rfl
 ·intro cs; exact rfl
 ·intro cs o n x r; exact rfl
 ·intro cs c o n r; simp only [z83]
 ·intro cs r; exact rfl
 ·intro sz xs; exact rfl
 ·intro sz xs i x r; simp only [zix,z0v]; cases V.toDs x.cells <;> rfl
 ·intro sz xs i ds r; exact rfl
 ·intro x; simp only [V.toD]
 ·intro sz; simp only [V.toD]
 ·intro id ver sz xs; simp only [V.toD]
 ·simp only [V.toDs]
 ·intro x r; simp only [V.toDs]; cases V.toD x <;> cases V.toDs r <;> rfl
 ·intro x r; exact rfl
 ·intro hp sz xs lo hi; exact Zby ..
 ·intro hp id ver off len sz lo hi; exact z32 ..
 ·intro id ver off sz v l h xs; simp [Zip]
 ·intro hp id ver sz xs lo hi; exact z31 ..
 ·intro sz l h xs; exact rfl
 ·intro id ver sz l h xs; exact rfl
 ·intro n; simp [zbi]
 ·intro n k x; simp [zbi]
 ·intro n k x; simp [zbi]
 ·intro n k k' x y; simp [zbi]
 ·intro sz ys; simp [zet]
 ·intro id ver sz ys; simp [zet]
 ·intro sz s; exact rfl
theorem evC :
  (V.handAll []=some []) ∧
  (∀ (x:V) (r:List V),V.handAll (x :: r)=z4t (V.hand x) (V.handAll r)) ∧
  (∀ (x:V) (r:List V),z4t (some x) (some r)=some (x :: r)) ∧
  (∀ (x:D),V.hand (.d x)=some (.d x)) ∧
  (∀ (sz:Nat),V.hand (.nil sz)=some (.d (.l sz []))) ∧
  (∀ (id ver sz:Nat) (xs:List (List D)),V.hand (.own id ver sz xs)=some (.d (.l sz xs))) ∧
  (∀ (cs:List V),V.hand (.agg cs)=Zng (V.handAll cs)) ∧
  (∀ (cs:List V),Zng (some cs)=some (.agg cs)) ∧
  (∀ (id ver off len:Nat),V.hand (.arr id ver off len)=some (.arr id ver off len)) ∧
  (∀ (id off:Nat),V.hand (.ptr id off)=some (.ptr id off)) ∧
  (∀ (id ver idx off:Nat),V.hand (.pm id ver idx off)=some (.pm id ver idx off)) ∧
  (∀ (id:Nat),V.hand (.map id)=some (.map id)) ∧
  (∀ (C:za0) (obj:Nat→Option Obj) (key res fresh:Nat) (hs:List V),zrb C obj key res fresh (some hs)=Zim C obj key hs res fresh (zbt obj far (V.refsAll hs) [])) ∧
  (∀ (C:za0) (obj:Nat→Option Obj) (key res fresh:Nat) (hs:List V) (L:List Nat),Zim C obj key hs res fresh (some L)=Zil C key hs L res fresh (zbj (zau L) zbh 0 (L.map obj))) ∧
  (∀ (C:za0) (key res fresh:Nat) (hs:List V) (L:List Nat) (h:List (Option Obj)),Zil C key hs L res fresh (some h)=Zkp L h res fresh (C key (V.renAll (zau L) zbh hs) h)) ∧
  (∀ (res fresh:Nat) (L:List Nat) (h h':List (Option Obj)) (x:V),Zkp L h res fresh (some (x,h'))=Zik L h res fresh x (zbj (bk L fresh) (shf L h) 0 h')) ∧
  (∀ (res fresh:Nat) (L:List Nat) (h os:List (Option Obj)) (x:V),Zik L h res fresh x (some os)=if L.length ≤ os.length∧os.length ≤ L.length + res then some (V.ren (bk L fresh) (shf L h) x,L,os.take L.length,os.drop L.length) else none) ∧
  (∀ (f:Nat) (obj:Nat→Option Obj) (done:List Nat),zbt obj f [] done=some done) ∧
  (∀ (obj:Nat→Option Obj) (f i:Nat) (r done:List Nat),zbt obj (f + 1) (i :: r) done=if done.contains i then zbt obj f r done else zbt obj f (r++Obj.refs (obj i)) (done++[i])) ∧
  (V.refsAll []=[]) ∧
  (∀ (x:V) (r:List V),V.refsAll (x :: r)=V.refs x++V.refsAll r) ∧
  (∀ (x:D),V.refs (.d x)=[]) ∧
  (∀ (sz:Nat),V.refs (.nil sz)=[]) ∧
  (∀ (id ver sz:Nat) (xs:List (List D)),V.refs (.own id ver sz xs)=[id]) ∧
  (∀ (id ver off len:Nat),V.refs (.arr id ver off len)=[id]) ∧
  (∀ (id off:Nat),V.refs (.ptr id off)=[id]) ∧
  (∀ (id ver idx off:Nat),V.refs (.pm id ver idx off)=[id]) ∧
  (∀ (id:Nat),V.refs (.map id)=[id]) ∧
  (∀ (cs:List V),V.refs (.agg cs)=V.refsAll cs) ∧
  (∀ (cs:List V),V.refs (.tup cs)=V.refsAll cs) ∧
  (∀ (k:Nat) (a c:List V),V.refs (.fn k a c)=V.refsAll a++V.refsAll c) ∧
  (∀ (cs:List V),Obj.refs (some (.box cs))=V.refsAll cs) ∧
  (∀ (cs:List D),Obj.refs (some (.cst cs))=[]) ∧
  (∀ (v sz:Nat),Obj.refs (some (.tok v sz))=[]) ∧
  (∀ (v sz:Nat) (xs:List (List V)),Obj.refs (some (.arr v sz xs))=zcj xs) ∧
  (∀ (kvs:List (List D × V)),Obj.refs (some (.map kvs))=zfu kvs) ∧
  (∀ (f sh:Nat→Nat),V.renAll f sh []=[]) ∧
  (∀ (f sh:Nat→Nat) (x:V) (r:List V),V.renAll f sh (x :: r)=V.ren f sh x :: V.renAll f sh r) ∧
  (∀ (f sh:Nat→Nat) (x:D),V.ren f sh (.d x) = .d x) ∧
  (∀ (f sh:Nat→Nat) (sz:Nat),V.ren f sh (.nil sz) = .nil sz) ∧
  (∀ (f sh:Nat→Nat) (cs:List V),V.ren f sh (.agg cs) = .agg (V.renAll f sh cs)) ∧
  (∀ (f sh:Nat→Nat) (cs:List V),V.ren f sh (.tup cs) = .tup (V.renAll f sh cs)) ∧
  (∀ (f sh:Nat→Nat) (id ver sz:Nat) (xs:List (List D)),V.ren f sh (.own id ver sz xs) = .own (f id) (ver + sh id) sz xs) ∧
  (∀ (f sh:Nat→Nat) (id ver off len:Nat),V.ren f sh (.arr id ver off len) = .arr (f id) ver off len) ∧
  (∀ (f sh:Nat→Nat) (id off:Nat),V.ren f sh (.ptr id off) = .ptr (f id) off) ∧
  (∀ (f sh:Nat→Nat) (id ver idx off:Nat),V.ren f sh (.pm id ver idx off) = .pm (f id) ver idx off) ∧
  (∀ (f sh:Nat→Nat) (id:Nat),V.ren f sh (.map id) = .map (f id)) ∧
  (∀ (f sh:Nat→Nat) (k:Nat) (a c:List V),V.ren f sh (.fn k a c) = .fn k (V.renAll f sh a) (V.renAll f sh c)) ∧
  (∀ (f sh:Nat→Nat) (i:Nat),zbj f sh i []=some []) ∧
  (∀ (f sh:Nat→Nat) (i:Nat) (o:Obj) (r:List (Option Obj)),zbj f sh i (some o :: r)=Zda (Obj.ren f sh (sh i) o) (zbj f sh (i + 1) r)) ∧
  (∀ (o:Obj) (r:List (Option Obj)),Zda o (some r)=some (some o :: r)) ∧
  (∀ (f sh:Nat→Nat) (s:Nat) (cs:List V),Obj.ren f sh s (.box cs) = .box (V.renAll f sh cs)) ∧
  (∀ (f sh:Nat→Nat) (s:Nat) (cs:List D),Obj.ren f sh s (.cst cs) = .cst cs) ∧
  (∀ (f sh:Nat→Nat) (s v sz:Nat),Obj.ren f sh s (.tok v sz) = .tok (v + s) sz) ∧
  (∀ (f sh:Nat→Nat) (s v sz:Nat) (xs:List (List V)),Obj.ren f sh s (.arr v sz xs) = .arr v sz (zeb f sh xs)) ∧
  (∀ (f sh:Nat→Nat) (s:Nat) (kvs:List (List D × V)),Obj.ren f sh s (.map kvs) = .map (zgp f sh kvs)) ∧
  (∀ (i x:Nat) (r:List Nat),zau (x :: r) i=if x=i then 0 else zau r i + 1) ∧
  (∀ (i:Nat),zbh i=0) ∧
  (∀ (L:List Nat) (f i:Nat),bk L f i=if i < L.length then L.getD i 0 else f + (i - L.length)) ∧
  (∀ (L:List Nat) (h:List (Option Obj)) (i:Nat),shf L h i=if i < L.length then zog (h.getD i none) else 0) ∧
  (∀ (v sz:Nat),zog (some (.tok v sz))=v + 1) ∧
  (∀ (cs:List V),zog (some (.box cs))=0) ∧
  (∀ (cs:List D),zog (some (.cst cs))=0) ∧
  (∀ (v sz:Nat) (xs:List (List V)),zog (some (.arr v sz xs))=0) ∧
  (∀ (kvs:List (List D × V)),zog (some (.map kvs))=0) ∧
  (∀ (C:za0) (key:Nat) (as:List V) (h:List (Option Obj)),za9 (zqs true) C key as h=z8a h.length (C key as h)) ∧
  (∀ (C:za0),za9 (zqs false) C=C) ∧
  (∀ (m:Nat) (x:V) (h:List (Option Obj)),z8a m (some (x,h))=zxm m x h (zeu m x)) ∧
  (∀ (m:Nat) (x:V) (h:List (Option Obj)),zxm m x h []=some (x,h)) ∧
  (∀ (m i:Nat) (is:List Nat) (x:V) (h:List (Option Obj)),zxm m x h (i :: is)=zdy m x h) ∧
  (∀ (m:Nat) (x:D),zeu m (.d x)=[]) ∧
  (∀ (m:Nat) (cs:List V),zeu m (.agg cs)=zc1 m cs) ∧
  (∀ (m:Nat) (cs:List V),zeu m (.tup cs)=zdd m cs) ∧
  (∀ (m:Nat),zdd m []=[]) ∧
  (∀ (m:Nat) (x:V) (r:List V),zdd m (x :: r)=zhb m x++zdd m r) ∧
  (∀ (m:Nat) (x:D),zhb m (.d x)=[]) ∧
  (∀ (m:Nat) (cs:List V),zhb m (.agg cs)=zc1 m cs) ∧
  (∀ (m id off:Nat),zhb m (.ptr id off)=[]) ∧
  (∀ (m id:Nat),zhb m (.map id)=[]) ∧
  (∀ (m id ver off len:Nat),zhb m (.arr id ver off len)=if m ≤ id then [id] else []) ∧
  (∀ (m id off:Nat),zeu m (.ptr id off)=[]) ∧
  (∀ (m id:Nat),zeu m (.map id)=[]) ∧
  (∀ (m k:Nat) (a c:List V),zeu m (.fn k a c)=[]) ∧
  (∀ (m id ver off len:Nat),zeu m (.arr id ver off len)=if m ≤ id then [id] else []) ∧
  (∀ (m:Nat),zc1 m []=[]) ∧
  (∀ (m:Nat) (x:V) (r:List V),zc1 m (x :: r)=V.arrIds m x++zc1 m r) ∧
  (∀ (m:Nat) (x:D),V.arrIds m (.d x)=[]) ∧
  (∀ (m id off:Nat),V.arrIds m (.ptr id off)=[]) ∧
  (∀ (m id:Nat),V.arrIds m (.map id)=[]) ∧
  (∀ (m id ver off len:Nat),V.arrIds m (.arr id ver off len)=if m ≤ id then [id] else []) ∧
  (∀ (hp:List (Option Obj)) (os:List (Option Obj)),zar hp [] os=hp) ∧
  (∀ (hp:List (Option Obj)) (is:List Nat),zar hp is []=hp) ∧
  (∀ (hp:List (Option Obj)) (i:Nat) (is:List Nat) (o:Option Obj) (os:List (Option Obj)),zar hp (i :: is) (o :: os)=zar (hp.set i o) is os) ∧
  (∀ (k:Nat) (a c:List D) (as:List V),zik (.d (.f k a c)) as=some (k,ofDs a++as++ofDs c)) ∧
  (∀ (k:Nat) (c as:List V),zik (.fn k [] c) as=some (k,[]++as++c)) ∧
  (∀ (k id:Nat) (as:List V),zik (.fn k [.map id] []) as=some (k,.fn k [.map id] [] :: as)):=by
 refine ⟨?_, ?_, ?_, ?_, ?_, ?_, ?_, ?_, ?_, ?_, ?_, ?_, ?_, ?_, ?_, ?_, ?_, ?_, ?_, ?_, ?_, ?_, ?_, ?_, ?_, ?_, ?_, ?_, ?_, ?_, ?_, ?_, ?_, ?_, ?_, ?_, ?_, ?_, ?_, ?_, ?_, ?_, ?_, ?_, ?_, ?_, ?_, ?_, ?_, ?_, ?_, ?_, ?_, ?_, ?_, ?_, ?_, ?_, ?_, ?_, ?_, ?_, ?_, ?_, ?_, ?_, ?_, ?_, ?_, ?_, ?_, ?_, ?_, ?_, ?_, ?_, ?_, ?_, ?_, ?_, ?_, ?_, ?_, ?_, ?_, ?_, ?_, ?_, ?_, ?_, ?_, ?_, ?_, ?_, ?_, ?_⟩
 ·simp only [V.handAll]
 ·intro x r; simp only [V.handAll]; cases V.hand x <;> cases V.handAll r <;> rfl
 ·intro x r; exact rfl
 ·intro x; simp only [V.hand]
 ·intro sz; simp only [V.hand]
 ·intro id ver sz xs; simp only [V.hand]
 ·intro cs; simp only [V.hand]; cases V.handAll cs <;> rfl
 ·intro cs; exact rfl
 ·intro id ver off len; simp only [V.hand]
 ·intro id off; simp only [V.hand]
 ·intro id ver idx off; simp only [V.hand]
 ·intro id; simp only [V.hand]
 ·intro C obj key res fresh hs; exact rfl
 ·intro C obj key res fresh hs L; exact rfl
 ·intro C key res fresh hs L h; exact rfl
 ·intro res fresh L h h' x; exact rfl
 ·intro res fresh L h os x; exact rfl
 ·intro f obj done; simp only [zbt]
 ·intro obj f i r done; simp only [zbt]
 ·simp only [V.refsAll]
 ·intro x r; simp only [V.refsAll]
 ·intro x; simp only [V.refs]
 ·intro sz; simp only [V.refs]
 ·intro id ver sz xs; simp only [V.refs]
 ·intro id ver off len; simp only [V.refs]
 ·intro id off; simp only [V.refs]
 ·intro id ver idx off; simp only [V.refs]
 ·intro id; simp only [V.refs]
 ·intro cs; simp only [V.refs]
 ·intro cs; simp only [V.refs]
 ·intro k a c; simp only [V.refs]
 ·intro cs; exact rfl
 ·intro cs; exact rfl
 ·intro v sz; exact rfl
 ·intro v sz xs; exact rfl
 ·intro kvs; exact rfl
 ·intro f sh; simp only [V.renAll]
 ·intro f sh x r; simp only [V.renAll]
 ·intro f sh x; simp only [V.ren]
 ·intro f sh sz; simp only [V.ren]
 ·intro f sh cs; simp only [V.ren]
 ·intro f sh cs; simp only [V.ren]
 ·intro f sh id ver sz xs; simp only [V.ren]
 ·intro f sh id ver off len; simp only [V.ren]
 ·intro f sh id off; simp only [V.ren]
 ·intro f sh id ver idx off; simp only [V.ren]
 ·intro f sh id; simp only [V.ren]
 ·intro f sh k a c; simp only [V.ren]
 ·intro f sh i; exact rfl
 ·intro f sh i o r; simp only [zbj]; cases zbj f sh (i + 1) r <;> rfl
 ·intro o r; exact rfl
 ·intro f sh s cs; exact rfl
 ·intro f sh s cs; exact rfl
 ·intro f sh s v sz; exact rfl
 ·intro f sh s v sz xs; exact rfl
 ·intro f sh s kvs; exact rfl
 ·intro i x r; exact rfl
 ·intro i; exact rfl
 ·intro L f i; exact rfl
 ·intro L h i; exact rfl
 ·intro v sz; exact rfl
 ·intro cs; exact rfl
 ·intro cs; exact rfl
 ·intro v sz xs; exact rfl
 ·intro kvs; exact rfl
 ·intro C key as h; exact z3y ..
 ·intro C; exact rfl
 ·intro m x h; exact zo0 ..
 ·intro m x h; exact rfl
 ·intro m i is x h; exact rfl
 ·intro m x; exact rfl
 ·intro m cs; exact rfl
 ·intro m cs; exact rfl
 ·intro m; exact rfl
 ·intro m x r; exact rfl
 ·intro m x; exact rfl
 ·intro m cs; exact rfl
 ·intro m id off; exact rfl
 ·intro m id; exact rfl
 ·intro m id ver off len; exact rfl
 ·intro m id off; exact rfl
 ·intro m id; exact rfl
 ·intro m k a c; exact rfl
 ·intro m id ver off len; exact rfl
 ·intro m; exact rfl
 ·intro m x r; exact rfl
 ·intro m x; exact rfl
 ·intro m id off; exact rfl
 ·intro m id; exact rfl
 ·intro m id ver off len; exact rfl
 ·intro hp os; cases os <;> rfl
 ·intro hp is; cases is <;> rfl
 ·intro hp i is o os; exact rfl
 ·intro k a c as; exact rfl
 ·intro k c as; exact rfl
 ·intro k id as; exact rfl
theorem evR :
  (∀ tm hp (m:Nat) (rs:List Ret),zdo m ⟨tm,hp⟩ rs=zy1 m hp (zc8 ⟨tm,hp⟩ rs)) ∧
  (∀ tm hp,zc8 ⟨tm,hp⟩ []=some []) ∧
  (∀ tm hp (r:Ret) (rs:List Ret),zc8 ⟨tm,hp⟩ (r :: rs)=z4t (zyd ⟨tm,hp⟩ r) (zc8 ⟨tm,hp⟩ rs)) ∧
  (∀ tm hp (t:Nat),zyd ⟨tm,hp⟩ (.slot t)=V.hand (za1 tm t)) ∧
  (∀ tm hp (t n:Nat) (ag:Bool),zyd ⟨tm,hp⟩ (.cell t ag n)=Ziv ag n hp (za1 tm t)) ∧
  (∀ (hp:List (Option Obj)) (ag:Bool) (n id off:Nat),Ziv ag n hp (.ptr id off)=Zld ag n off (zbc hp id)) ∧
  (∀ (ag:Bool) (n off:Nat) (cs:List V),Zld ag n off (some (.box cs))=Zc9 (asO ag n (zbn cs off n))) ∧
  (∀ (x:V),Zc9 (some x)=V.hand x) ∧
  (∀ (m:Nat) (hp:List (Option Obj)) (vs:List V),zy1 m hp (some vs)=Zir vs hp (zbt (zbc hp) far (rng 0 m++V.refsAll vs) [])) ∧
  (∀ (hp:List (Option Obj)) (vs:List V) (L:List Nat),Zir vs hp (some L)=Zk3 vs L (zbj (zau L) zbh 0 (L.map (zbc hp)))) ∧
  (∀ (vs:List V) (L:List Nat) (h:List (Option Obj)),Zk3 vs L (some h)=some (V.ren (zau L) zbh (zej vs),h)) ∧
  (∀ (v:V),zej [v]=v) ∧
  (∀ (v u:V) (r:List V),zej (v :: u :: r) = .tup (v :: u :: r)) ∧
  (zej [] = .tup []) ∧
  (∀ (i:Nat),rng i 0=[]) ∧
  (∀ (i n:Nat),rng i (n + 1)=i :: rng (i + 1) n):=by
 refine ⟨?_, ?_, ?_, ?_, ?_, ?_, ?_, ?_, ?_, ?_, ?_, ?_, ?_, ?_, ?_, ?_⟩
 ·intro tm hp m rs; exact zhm ..
 ·intro tm hp; exact rfl
 ·intro tm hp r rs; simp only [zc8]; cases zyd ⟨tm,hp⟩ r <;> cases zc8 ⟨tm,hp⟩ rs <;> rfl
 ·intro tm hp t; exact rfl
 ·intro tm hp t n ag; simp only [zyd]; show (match za1 tm t with | .ptr id off=>_ | _=>_)=_; unfold Ziv; cases za1 tm t <;> rfl
 ·intro hp ag n id off; simp only [Ziv,Zld]; show (match (zbc hp id) with | some (.box cs)=>_ | _=>_)=_; cases zbc hp id with | none=>rfl | some o=>(cases o with | box cs=>(simp only; cases zbn cs off n with | none=>rfl | some c=>rfl) | _=>rfl)
 ·intro ag n off cs; exact rfl
 ·intro x; exact rfl
 ·intro m hp vs; exact rfl
 ·intro hp vs L; exact rfl
 ·intro vs L h; exact rfl
 ·intro v; exact rfl
 ·intro v u r; exact rfl
 ·exact rfl
 ·intro i; exact rfl
 ·intro i n; exact rfl
theorem evH :
  (∀ (k o:List Nat) (ob:List (Nat × Nat)) (da:List Nat) (db:List (Nat × Nat)) (tr:Bool) (s:St),enter ⟨k,o,ob,da,db,tr⟩ s=z4a k (zim db (zil da (zlc ob (zlb o s))))) ∧
  (∀ (s:St),zil [] s=s) ∧
  (∀ (s:St) (t:Nat) (r:List Nat),zil (t :: r) s=zil r (zfv s t)) ∧
  (∀ (s:St),zim [] s=s) ∧
  (∀ (s:St) (t:Nat × Nat) (r:List (Nat × Nat)),zim (t :: r) s=zim r (zib s t)) ∧
  (∀ tm hp (t:Nat),zfv ⟨tm,hp⟩ t=⟨(t,z1x (za1 tm t)) :: tm,hp⟩) ∧
  (∀ tm hp (t c:Nat),zib ⟨tm,hp⟩ (t,c)=z4c tm hp c (za1 tm t)) ∧
  (∀ tm hp (c id off:Nat),z4c tm hp c (.ptr id off)=z4b tm hp id (off + c) (zbc hp id)) ∧
  (∀ tm hp (id k:Nat) (cs:List V),z4b tm hp id k (some (.box cs))=z8n tm hp id k cs cs[k]?) ∧
  (∀ tm hp (id k:Nat) (cs:List V) (v:V),z8n tm hp id k cs (some v)=⟨tm,hp.set id (some (.box (cs.set k (zsw v))))⟩) ∧
  (∀ tm hp (t c:Nat),zdn ⟨tm,hp⟩ (t,c)=zt6 tm hp t c (za1 tm t)) ∧
  (∀ tm hp (t c id off:Nat),zt6 tm hp t c (.ptr id off)=z4d tm hp id (off + c) (zbc hp id)) ∧
  (∀ tm hp (t c sz:Nat),zt6 tm hp t c (.nil sz)=⟨(t,.arr hp.length 0 0 0) :: tm,hp++[some (.arr 0 sz [])]⟩) ∧
  (∀ tm hp (t c:Nat) (x:D),zt6 tm hp t c (.d x)=⟨tm,hp⟩) ∧
  (∀ tm hp (t c id ver off len:Nat),zt6 tm hp t c (.arr id ver off len)=⟨tm,hp⟩) ∧
  (∀ tm hp (id k:Nat) (cs:List V),z4d tm hp id k (some (.box cs))=z0j tm hp id k cs cs[k]?) ∧
  (∀ tm hp (id k sz:Nat) (cs:List V),z0j tm hp id k cs (some (.nil sz))=⟨tm,(hp.set id (some (.box (cs.set k (.own hp.length 0 sz [])))))++[some (.tok 0 sz)]⟩) ∧
  (∀ tm hp (id k i v sz:Nat) (xs:List (List D)) (cs:List V),z0j tm hp id k cs (some (.own i v sz xs))=⟨tm,hp⟩) ∧
  (∀ tm hp (id k:Nat) (x:D) (cs:List V),z0j tm hp id k cs (some (.d x))=⟨tm,hp⟩) ∧
  (∀ (sz:Nat),zsw (.nil sz) = .d (.l sz [])) ∧
  (∀ (id ver sz:Nat) (xs:List (List D)),zsw (.own id ver sz xs) = .d (.l sz xs)) ∧
  (∀ (x:D),zsw (.d x) = .d x) ∧
  (∀ (sz:Nat),z1x (.nil sz) = .d (.l sz [])) ∧
  (∀ (id ver sz:Nat) (xs:List (List D)),z1x (.own id ver sz xs) = .d (.l sz xs)) ∧
  (∀ (x:D),z1x (.d x) = .d x) ∧
  (∀ (cs:List V),z1x (.agg cs) = .agg (cs.map zsw)) ∧
  (∀ (id ver off len:Nat),z1x (.arr id ver off len) = .arr id ver off len) ∧
  (∀ (id ver off len:Nat),zsw (.arr id ver off len) = .arr id ver off len) ∧
  (∀ (s:St),zlb [] s=s) ∧
  (∀ (s:St) (t:Nat) (r:List Nat),zlb (t :: r) s=zlb r (zep s t)) ∧
  (∀ (s:St),zlc [] s=s) ∧
  (∀ (s:St) (t:Nat × Nat) (r:List (Nat × Nat)),zlc (t :: r) s=zlc r (zdn s t)) ∧
  (∀ tm hp (t:Nat),zep ⟨tm,hp⟩ t=Zav tm hp t (za1 tm t)) ∧
  (∀ tm hp (t sz:Nat),Zav tm hp t (.nil sz)=⟨(t,.own hp.length 0 sz []) :: tm,hp++[some (.tok 0 sz)]⟩) ∧
  (∀ tm hp (t:Nat) (x:D),Zav tm hp t (.d x)=⟨tm,hp⟩) ∧
  (∀ tm hp (t id ver sz:Nat) (xs:List (List D)),Zav tm hp t (.own id ver sz xs)=⟨tm,hp⟩) ∧
  (∀ tm hp (t id ver off len:Nat),Zav tm hp t (.arr id ver off len)=⟨tm,hp⟩) ∧
  (∀ tm hp (k:List Nat),z4a k ⟨tm,hp⟩=⟨zlr tm k,hp⟩) ∧
  (∀ (tm:List (Nat × V)),zlr tm []=[]) ∧
  (∀ (tm:List (Nat × V)) (t:Nat) (r:List Nat),zlr tm (t :: r)=(t,za1 tm t) :: zlr tm r) ∧
  (∀ (k o:List Nat) (ob:List (Nat × Nat)) (da:List Nat) (db:List (Nat × Nat)) (n:Nat) (s:St),zkt ⟨k,o,ob,da,db,true⟩ n s=z4f k n (zim db (zil da s))) ∧
  (∀ (k o:List Nat) (ob:List (Nat × Nat)) (da:List Nat) (db:List (Nat × Nat)) (n:Nat) (s:St),zkt ⟨k,o,ob,da,db,false⟩ n s=zvu k (zim db (zil da s))) ∧
  (∀ tm hp (k:List Nat) (n:Nat),z4f k n ⟨tm,hp⟩=zhw n (zlr tm k) (hp.take n)) ∧
  (∀ tm hp (k:List Nat),zvu k ⟨tm,hp⟩=some ⟨zlr tm k,hp⟩) ∧
  (∀ (n:Nat) (tm:List (Nat × V)) (h:List (Option Obj)),zhw n tm h=if zcl n tm && zhw.underH n h then some ⟨zdi h tm,zhw.normH h h⟩ else none) ∧
  (∀ (n:Nat),zhw.underH n []=true) ∧
  (∀ (n:Nat) (o:Option Obj) (r:List (Option Obj)),zhw.underH n (o :: r)=(Obj.under n o && zhw.underH n r)) ∧
  (∀ (h:List (Option Obj)),zhw.normH h []=[]) ∧
  (∀ (h:List (Option Obj)) (o:Option Obj) (r:List (Option Obj)),zhw.normH h (o :: r)=zbp h o :: zhw.normH h r) ∧
  (∀ (n:Nat),zcl n []=true) ∧
  (∀ (n i:Nat) (x:V) (r:List (Nat × V)),zcl n ((i,x) :: r)=(V.under n x && zcl n r)) ∧
  (∀ (n:Nat) (x:D),V.under n (.d x)=true) ∧
  (∀ (n:Nat) (sz:Nat),V.under n (.nil sz)=true) ∧
  (∀ (n:Nat),V.under n (.bad)=true) ∧
  (∀ (n:Nat) (id ver sz:Nat) (xs:List (List D)),V.under n (.own id ver sz xs)=decide (id < n)) ∧
  (∀ (n:Nat) (id ver off len:Nat),V.under n (.arr id ver off len)=decide (id < n)) ∧
  (∀ (n:Nat) (id off:Nat),V.under n (.ptr id off)=decide (id < n)) ∧
  (∀ (n:Nat) (id ver idx off:Nat),V.under n (.pm id ver idx off)=decide (id < n)) ∧
  (∀ (n:Nat) (id:Nat),V.under n (.map id)=decide (id < n)) ∧
  (∀ (n:Nat) (k:Nat) (a c:List V),V.under n (.fn k a c)=(V.underAll n a && V.underAll n c)) ∧
  (∀ (n:Nat) (cs:List V),V.under n (.agg cs)=V.underAll n cs) ∧
  (∀ (n:Nat) (cs:List V),V.under n (.tup cs)=V.underAll n cs) ∧
  (∀ (n:Nat),V.underAll n []=true) ∧
  (∀ (n:Nat) (x:V) (r:List V),V.underAll n (x :: r)=(V.under n x && V.underAll n r)) ∧
  (∀ (n:Nat) (cs:List V),Obj.under n (some (.box cs))=V.underAll n cs) ∧
  (∀ (n v sz:Nat),Obj.under n (some (.tok v sz))=true) ∧
  (∀ (n:Nat) (ds:List D),Obj.under n (some (.cst ds))=true) ∧
  (∀ (n v sz:Nat) (xs:List (List V)),Obj.under n (some (.arr v sz xs))=zbr n xs) ∧
  (∀ (n:Nat) (kvs:List (List D × V)),Obj.under n (some (.map kvs))=zct n kvs) ∧
  (∀ (n:Nat),Obj.under n none=true) ∧
  (∀ (h:List (Option Obj)),zdi h []=[]) ∧
  (∀ (h:List (Option Obj)) (i:Nat) (x:V) (r:List (Nat × V)),zdi h ((i,x) :: r)=(i,zdq h x) :: zdi h r) ∧
  (∀ (h:List (Option Obj)) (cs:List V),zdq h (.agg cs) = .agg (cs.map (zc5 h))) ∧
  (∀ (h:List (Option Obj)),zdq h (.tup []) = .tup []) ∧
  (∀ (h:List (Option Obj)) (x:D),zdq h (.d x) = .d x) ∧
  (∀ (h:List (Option Obj)) (x:D),zc5 h (.d x) = .d x) ∧
  (∀ (h:List (Option Obj)) (sz:Nat),zdq h (.nil sz) = .nil sz) ∧
  (∀ (h:List (Option Obj)) (sz:Nat),zc5 h (.nil sz) = .nil sz) ∧
  (∀ (h:List (Option Obj)) (id off:Nat),zdq h (.ptr id off) = .ptr id off) ∧
  (∀ (h:List (Option Obj)) (id off:Nat),zc5 h (.ptr id off) = .ptr id off) ∧
  (∀ (h:List (Option Obj)) (id:Nat),zdq h (.map id) = .map id) ∧
  (∀ (h:List (Option Obj)) (id:Nat),zc5 h (.map id) = .map id) ∧
  (∀ (h:List (Option Obj)),zdq h (.bad) = .bad) ∧
  (∀ (h:List (Option Obj)),zc5 h (.bad) = .bad) ∧
  (∀ (h:List (Option Obj)) (id ver sz:Nat) (xs:List (List D)),zdq h (.own id ver sz xs)=z4h id ver sz xs (zbc h id)) ∧
  (∀ (h:List (Option Obj)) (id ver sz:Nat) (xs:List (List D)),zc5 h (.own id ver sz xs)=z4h id ver sz xs (zbc h id)) ∧
  (∀ (h:List (Option Obj)) (id ver off len:Nat),zdq h (.arr id ver off len)=z4i id ver off len (zbc h id)) ∧
  (∀ (h:List (Option Obj)) (id ver off len:Nat),zc5 h (.arr id ver off len)=z4i id ver off len (zbc h id)) ∧
  (∀ (h:List (Option Obj)) (k:Nat) (a c:List V),zdq h (.fn k a c)=if V.fine (.fn k a c) then .fn k a c else .bad) ∧
  (∀ (id ver sz v s:Nat) (xs:List (List D)),z4h id ver sz xs (some (.tok v s))=if ver=v then .own id 0 sz xs else .d (.l sz xs)) ∧
  (∀ (id ver off len v s:Nat) (xs:List (List V)),z4i id ver off len (some (.arr v s xs))=if ver=v then .arr id ver off len else .bad) ∧
  (∀ (h:List (Option Obj)) (cs:List V),zbp h (some (.box cs))=some (.box (cs.map (zc5 h)))) ∧
  (∀ (h:List (Option Obj)) (v sz:Nat),zbp h (some (.tok v sz))=some (.tok 0 sz)) ∧
  (∀ (h:List (Option Obj)) (ds:List D),zbp h (some (.cst ds))=some (.cst ds)) ∧
  (∀ (h:List (Option Obj)) (v sz:Nat) (xs:List (List V)),zbp h (some (.arr v sz xs))=some (.arr v sz (xs.map fun r=>r.map (zc5 h)))) ∧
  (∀ (h:List (Option Obj)) (kvs:List (List D × V)),zbp h (some (.map kvs))=some (.map (kvs.map fun p=>(p.1,zdq h p.2)))) ∧
  (∀ (h:List (Option Obj)),zbp h none=none):=by
 refine ⟨?_, ?_, ?_, ?_, ?_, ?_, ?_, ?_, ?_, ?_, ?_, ?_, ?_, ?_, ?_, ?_, ?_, ?_, ?_, ?_, ?_, ?_, ?_, ?_, ?_, ?_, ?_, ?_, ?_, ?_, ?_, ?_, ?_, ?_, ?_, ?_, ?_, ?_, ?_, ?_, ?_, ?_, ?_, ?_, ?_, ?_, ?_, ?_, ?_, ?_, ?_, ?_, ?_, ?_, ?_, ?_, ?_, ?_, ?_, ?_, ?_, ?_, ?_, ?_, ?_, ?_, ?_, ?_, ?_, ?_, ?_, ?_, ?_, ?_, ?_, ?_, ?_, ?_, ?_, ?_, ?_, ?_, ?_, ?_, ?_, ?_, ?_, ?_, ?_, ?_, ?_, ?_, ?_, ?_, ?_, ?_, ?_⟩
 ·intro k o ob da db tr s; exact z4e ..
 ·intro s; exact rfl
 ·intro s t r; exact rfl
 ·intro s; exact rfl
 ·intro s t r; exact rfl
 ·intro tm hp t; exact rfl
 ·intro tm hp t c; exact z0i ..
 ·intro tm hp c id off; exact rfl
 ·intro tm hp id k cs; exact rfl
 ·intro tm hp id k cs v; exact rfl
 ·intro tm hp t c; exact z0k ..
 ·intro tm hp t c id off; exact rfl
 ·intro tm hp t c sz; exact rfl
 ·intro tm hp t c x; exact rfl
 ·intro tm hp t c id ver off len; exact rfl
 ·intro tm hp id k cs; exact rfl
 ·intro tm hp id k sz cs; exact rfl
 ·intro tm hp id k i v sz xs cs; exact rfl
 ·intro tm hp id k x cs; exact rfl
 ·intro sz; exact rfl
 ·intro id ver sz xs; exact rfl
 ·intro x; exact rfl
 ·intro sz; exact rfl
 ·intro id ver sz xs; exact rfl
 ·intro x; exact rfl
 ·intro cs; exact rfl
 ·intro id ver off len; exact rfl
 ·intro id ver off len; exact rfl
 ·intro s; exact rfl
 ·intro s t r; exact rfl
 ·intro s; exact rfl
 ·intro s t r; exact rfl
 ·intro tm hp t; exact zry ..
 ·intro tm hp t sz; exact rfl
 ·intro tm hp t x; exact rfl
 ·intro tm hp t id ver sz xs; exact rfl
 ·intro tm hp t id ver off len; exact rfl
 ·intro tm hp k; exact rfl
 ·intro tm; exact rfl
 ·intro tm t r; exact rfl
 ·intro k o ob da db n s; exact z8o ..
 ·intro k o ob da db n s; exact z4g ..
 ·intro tm hp k n; exact rfl
 ·intro tm hp k; exact rfl
 ·intro n tm h; exact rfl
 ·intro n; exact rfl
 ·intro n o r; exact rfl
 ·intro h; exact rfl
 ·intro h o r; exact rfl
 ·intro n; exact rfl
 ·intro n i x r; exact rfl
 ·intro n x; simp only [V.under]
 ·intro n sz; simp only [V.under]
 ·intro n; simp only [V.under]
 ·intro n id ver sz xs; simp only [V.under]
 ·intro n id ver off len; simp only [V.under]
 ·intro n id off; simp only [V.under]
 ·intro n id ver idx off; simp only [V.under]
 ·intro n id; simp only [V.under]
 ·intro n k a c; simp only [V.under]
 ·intro n cs; simp only [V.under]
 ·intro n cs; simp only [V.under]
 ·intro n; simp only [V.underAll]
 ·intro n x r; simp only [V.underAll]
 ·intro n cs; exact rfl
 ·intro n v sz; exact rfl
 ·intro n ds; exact rfl
 ·intro n v sz xs; exact rfl
 ·intro n kvs; exact rfl
 ·intro n; exact rfl
 ·intro h; exact rfl
 ·intro h i x r; exact rfl
 ·intro h cs; exact rfl
 ·intro h; exact rfl
 ·intro h x; exact rfl
 ·intro h x; exact rfl
 ·intro h sz; exact rfl
 ·intro h sz; exact rfl
 ·intro h id off; exact rfl
 ·intro h id off; exact rfl
 ·intro h id; exact rfl
 ·intro h id; exact rfl
 ·intro h; exact rfl
 ·intro h; exact rfl
 ·intro h id ver sz xs; exact zr0 ..
 ·intro h id ver sz xs; exact zr0 ..
 ·intro h id ver off len; exact zr1 ..
 ·intro h id ver off len; exact zr1 ..
 ·intro h k a c; exact rfl
 ·intro id ver sz v s xs; exact rfl
 ·intro id ver off len v s xs; exact rfl
 ·intro h cs; exact rfl
 ·intro h v sz; exact rfl
 ·intro h ds; exact rfl
 ·intro h v sz xs; exact rfl
 ·intro h kvs; exact rfl
 ·intro h; exact rfl
theorem evN :
  (∀ (n:Nat),n + 0=n) ∧
  (∀ (n:Nat),0 + n=n) ∧
  (∀ (α:Type) (r:List α),r++[]=r) ∧
  (∀ (α:Type) (r:List α),[]++r=r) ∧
  (∀ (α:Type) (x:α) (r t:List α),(x :: r)++t=x :: (r++t)) ∧
  (∀ (α:Type),([]:List α).length=0) ∧
  (∀ (α:Type) (x:α) (r:List α),(x :: r).length=r.length + 1) ∧
  (∀ (α:Type) (x y:α) (r:List α),(x :: r).set 0 y=y :: r) ∧
  (∀ (α:Type) (x y:α) (r:List α) (i:Nat),(x :: r).set (i + 1) y=x :: r.set i y) ∧
  (∀ (α:Type) (r:List α),r.take 0=[]) ∧
  (∀ (α:Type) (x:α) (r:List α) (i:Nat),(x :: r).take (i + 1)=x :: r.take i) ∧
  (∀ (α:Type) (i:Nat),([]:List α).take i=[]) ∧
  (∀ (α:Type) (r:List α),r.drop 0=r) ∧
  (∀ (α:Type) (x:α) (r:List α) (i:Nat),(x :: r).drop (i + 1)=r.drop i) ∧
  (∀ (α:Type) (i:Nat),([]:List α).drop i=[]) ∧
  (∀ (α:Type) (x:α) (r:List α),(x :: r)[0]?=some x) ∧
  (∀ (α:Type) (x:α) (r:List α) (i:Nat),(x :: r)[i + 1]?=r[i]?) ∧
  (∀ (α β:Type) (f:α→β),([]:List α).map f=[]) ∧
  (∀ (α β:Type) (f:α→β) (x:α) (r:List α),(x :: r).map f=f x :: r.map f) ∧
  (∀ (α:Type) (i:Nat),([]:List α).zipIdx i=[]) ∧
  (∀ (α:Type) (x:α) (r:List α) (i:Nat),(x :: r).zipIdx i=(x,i) :: r.zipIdx (i + 1)) ∧
  (∀ (args:List V) (h:List (Option Obj)),zj7 args h=⟨args.zipIdx.map fun p=>(p.2,p.1),h⟩) ∧
  (∀ (α:Type) (x:α),List.replicate 0 x=[]) ∧
  (∀ (α:Type) (x:α) (k:Nat),List.replicate (k + 1) x=x :: List.replicate k x) ∧
  (∀ (i:Nat),([]:List Nat).contains i=false) ∧
  (∀ (x i:Nat) (r:List Nat),(x :: r).contains i=(i == x || r.contains i)) ∧
  (∀ (x:Nat),(x == x)=true) ∧
  (∀ (x:Bool),(x == true)=x) ∧
  (∀ (x:Bool),(x == false) = !x) ∧
  (∀ (x:Bool),(x || true)=true) ∧
  (∀ (x:Bool),(true || x)=true) ∧
  (∀ (x:Bool),(x || false)=x) ∧
  (∀ (x:Bool),(false || x)=x) ∧
  (∀ (x:Bool),(x && true)=x) ∧
  (∀ (x:Bool),(true && x)=x) ∧
  (∀ (x:Bool),(x && false)=false) ∧
  (∀ (x:Bool),(false && x)=false) ∧
  ((!true)=false) ∧
  ((!false)=true) ∧
  (∀ (p:Prop),(p∧True)=p) ∧
  (∀ (p:Prop),(True∧p)=p) ∧
  (∀ (α:Type) (x:α),(x=x)=True) ∧
  ((false=true)=False) ∧
  ((true=false)=False) ∧
  (∀ (α:Type) (x y:α),(if True then x else y)=x) ∧
  (∀ (α:Type) (x y:α),(if False then x else y)=y) ∧
  (decide True=true) ∧
  (decide False=false):=by
 refine ⟨?_, ?_, ?_, ?_, ?_, ?_, ?_, ?_, ?_, ?_, ?_, ?_, ?_, ?_, ?_, ?_, ?_, ?_, ?_, ?_, ?_, ?_, ?_, ?_, ?_, ?_, ?_, ?_, ?_, ?_, ?_, ?_, ?_, ?_, ?_, ?_, ?_, ?_, ?_, ?_, ?_, ?_, ?_, ?_, ?_, ?_, ?_, ?_⟩
 ·intro n; simp
 ·intro n; simp
 ·intro α r; simp
 ·intro α r; simp
 ·intro α x r t; simp
 ·intro α; simp
 ·intro α x r; simp
 ·intro α x y r; simp
 ·intro α x y r i; simp
 ·intro α r; simp
 ·intro α x r i; simp
 ·intro α i; simp
 ·intro α r; simp
 ·intro α x r i; simp
 ·intro α i; simp
 ·intro α x r; simp
 ·intro α x r i; simp
 ·intro α β f; simp
 ·intro α β f x r; simp
 ·intro α i; simp
 ·intro α x r i; simp
 ·intro args h; exact rfl
 ·intro α x; simp
 ·intro α x k; exact rfl
 ·intro i; simp
 ·intro x i r; exact rfl
 ·intro x; simp
 ·intro x; simp
 ·intro x; simp
 ·intro x; simp
 ·intro x; simp
 ·intro x; simp
 ·intro x; simp
 ·intro x; simp
 ·intro x; simp
 ·intro x; simp
 ·intro x; simp
 ·simp
 ·simp
 ·intro p; simp
 ·intro p; simp
 ·intro α x; simp
 ·simp
 ·simp
 ·intro α x y; simp
 ·intro α x y; simp
 ·simp
 ·simp
theorem evM :
  (zax []=0) ∧
  (∀ (o:CO) (r:List CO),zax (o :: r)=o.op.nmk + zax r) ∧
  (∀ (x:A),Cop.nmk (.mv x)=0) ∧
  (∀ (x y z:A),Cop.nmk (.pick x y z)=0) ∧
  (∀ (z:V),Cop.nmk (.zero z)=1) ∧
  (∀ (x:A),Cop.nmk (.box x)=1) ∧
  (∀ (z:List V) (ps:List (Nat × Nat × A)),Cop.nmk (.build z ps)=0) ∧
  (∀ (sz n:Nat) (z:List D) (ps:List (Nat × A)),Cop.nmk (.bsl sz n z ps)=1) ∧
  (∀ (g:Bool) (n:Nat) (x:A),Cop.nmk (.ld g n x)=0) ∧
  (∀ (n:Nat) (x y:A),Cop.nmk (.st n x y)=0) ∧
  (∀ (x:A),Cop.nmk (.nilc x)=0) ∧
  (∀ (op:BinOp) (x y:A),Cop.nmk (.bin op x y)=0) ∧
  (∀ (ks:List CK) (g:Bool) (x y:A),Cop.nmk (.eqa ks g x y)=0) ∧
  (∀ (g:Bool) (x y:A),Cop.nmk (.eqb g x y)=0) ∧
  (∀ (op:UnOp) (x:A),Cop.nmk (.un op x)=0) ∧
  (∀ (g:Bool) (x:A),Cop.nmk (.nils g x)=0) ∧
  (∀ (k:IntKind) (x:A),Cop.nmk (.conv k x)=0) ∧
  (∀ (x:A),Cop.nmk (.sid x)=0) ∧
  (∀ (k:Nat) (f c:List A) (z:Bool),Cop.nmk (.mkf k f c z)=0) ∧
  (Cop.nmk (.mkm)=1) ∧
  (∀ (sz b:Nat) (z:List D) (ow:Bool) (x y:A),Cop.nmk (.mks sz b z ow x y)=1) ∧
  (∀ (x:A),Cop.nmk (.bts x)=0) ∧
  (∀ (sz:Nat) (x:A) (lo hi:Option A),Cop.nmk (.slc sz x lo hi)=0) ∧
  (∀ (x:A) (lo hi:Option A),Cop.nmk (.sls x lo hi)=0) ∧
  (∀ (o:Nat) (x:A),Cop.nmk (.fa o x)=0) ∧
  (∀ (g:Bool) (o n:Nat) (x:A),Cop.nmk (.fl g o n x)=0) ∧
  (∀ (sz:Nat) (x y:A),Cop.nmk (.ia sz x y)=0) ∧
  (∀ (n sz:Nat) (x y:A),Cop.nmk (.iaa n sz x y)=0) ∧
  (∀ (x y:A),Cop.nmk (.ixs x y)=0) ∧
  (∀ (g:Bool) (n sz:Nat) (x y:A),Cop.nmk (.ixa g n sz x y)=0) ∧
  (∀ (k:Nat) (x:A),Cop.nmk (.len k x)=0) ∧
  (∀ (sz b:Nat) (x y:A),Cop.nmk (.app sz b x y)=1) ∧
  (∀ (g:Bool) (xs:List A),Cop.nmk (.mm g xs)=0) ∧
  (∀ (ag:Bool) (ks:List CK) (ok:Bool) (z:V) (m k:A),Cop.nmk (.lk ag ks ok z m k)=0) ∧
  (∀ (ag:Bool) (ks:List CK) (m k v:A),Cop.nmk (.mu ag ks m k v)=0) ∧
  (∀ (ag:Bool) (ks:List CK) (m k:A),Cop.nmk (.del ag ks m k)=0) ∧
  (∀ (x:A),Cop.nmk (.frz x)=0) ∧
  (∀ (x:A) (i:Nat),Cop.nmk (.ext x i)=0) ∧
  (∀ (k:Nat) (as:List A) (n:Nat) (z:Bool),Cop.nmk (.call k as n z)=n) ∧
  (∀ (f:A) (as:List A) (n:Nat) (z:Bool),Cop.nmk (.callv f as n z)=n) ∧
  (more 0=[]) ∧
  (∀ (n:Nat),more (n + 1)=none :: more n):=by
 refine ⟨?_, ?_, ?_, ?_, ?_, ?_, ?_, ?_, ?_, ?_, ?_, ?_, ?_, ?_, ?_, ?_, ?_, ?_, ?_, ?_, ?_, ?_, ?_, ?_, ?_, ?_, ?_, ?_, ?_, ?_, ?_, ?_, ?_, ?_, ?_, ?_, ?_, ?_, ?_, ?_, ?_, ?_⟩
 ·exact rfl
 ·intro o r; exact rfl
 ·intro x; exact rfl
 ·intro x y z; exact rfl
 ·intro z; exact rfl
 ·intro x; exact rfl
 ·intro z ps; exact rfl
 ·intro sz n z ps; exact rfl
 ·intro g n x; exact rfl
 ·intro n x y; exact rfl
 ·intro x; exact rfl
 ·intro op x y; exact rfl
 ·intro ks g x y; exact rfl
 ·intro g x y; exact rfl
 ·intro op x; exact rfl
 ·intro g x; exact rfl
 ·intro k x; exact rfl
 ·intro x; exact rfl
 ·intro k f c z; exact rfl
 ·exact rfl
 ·intro sz b z ow x y; exact rfl
 ·intro x; exact rfl
 ·intro sz x lo hi; exact rfl
 ·intro x lo hi; exact rfl
 ·intro o x; exact rfl
 ·intro g o n x; exact rfl
 ·intro sz x y; exact rfl
 ·intro n sz x y; exact rfl
 ·intro x y; exact rfl
 ·intro g n sz x y; exact rfl
 ·intro k x; exact rfl
 ·intro sz b x y; exact rfl
 ·intro g xs; exact rfl
 ·intro ag ks ok z m k; exact rfl
 ·intro ag ks m k v; exact rfl
 ·intro ag ks m k; exact rfl
 ·intro x; exact rfl
 ·intro x i; exact rfl
 ·intro k as n z; exact rfl
 ·intro f as n z; exact rfl
 ·exact rfl
 ·intro n; exact rfl
section
variable {E:Nat→Option Fn} {Q:Ex→St→Prop}
theorem z0w {ops:List CO}{tm:List (Nat × V)}{hp:List (Option Obj)}(h:∀ K:St→List Foot→Prop,(∀ s' es,Q .normal s'→K s' es)→go (lcall E) K hp.length ops 0 tm (hp++more (zax ops)) []):WX E (.region false ops) ⟨tm,hp⟩ Q:=by
 obtain ⟨s',es,h1,h2⟩:=z0f ops 0 _ [] _ (h (fun s' _=>Q .normal s') (fun s' _ h=>h))
 refine ⟨.normal,s', ?_,h2⟩
 rw [zg8]
 unfold zbb
 rw [zmp] at h1
 simp only [h1,Qm,if_false]
end
open Go
section
variable {C:za0} {K:St→List Foot→Prop} {b:Nat} {r:List CO} {j:Nat} {tm:List (Nat × V)} {hp:List (Option Obj)} {es:List Foot} {d p:Nat}
theorem Zdb (k:Nat)(f c:List A):go C K b (⟨some d,.mkf k f c false,none,p⟩ :: r) j tm hp es=go C K b r j ((d,.fn k (evL tm f) (evL tm c)) :: tm) hp (⟨[],false,b + j,0⟩ :: es):=by
 rw [zbe _ _ rfl]
 simp only [Cop.args,List.map_append,← zju,act,Qm,if_false]
 have h1:(evL tm f).length=f.length:=by rw [zju,Qf]
 rw [← h1,List.take_left' rfl,List.drop_left' rfl]
 rfl
def zrc (vs:List V)(hp:List (Option Obj)):Option (List D × List (Option Obj)):=zav vs ((za5 vs).map (zbc hp))
def zxu (C:za0)(K:St→List Foot→Prop)(b d k n:Nat)(r:List CO)(j:Nat)(tm:List (Nat × V))(hp:List (Option Obj))(es:List Foot)(vs:List V):Option (List D × List (Option Obj))→Prop
 | some (c,os)=>go C K b r j ((d,.d (.f k (c.take n) (c.drop n))) :: tm) (zar hp (za5 vs) os) (⟨za5 vs,true,b + j,0⟩ :: es)
 | none=>((za5 vs).map (zbc hp)).all Option.isSome=true∧go C K b r j ((d,.fn k (vs.take n) (vs.drop n)) :: tm) (zar hp (za5 vs) ((za5 vs).map (zbc hp))) (⟨za5 vs,true,b + j,0⟩ :: es)
theorem z85 (k:Nat)(f c:List A):go C K b (⟨some d,.mkf k f c true,none,p⟩ :: r) j tm hp es=(zg9 (za5 (evL tm (f++c)))=true∧zxu C K b d k f.length r j tm hp es (evL tm (f++c)) (zrc (evL tm (f++c)) hp)):=by
 rw [zbe _ _ rfl]
 simp only [Cop.args,← zju,act,if_true,Cop.ids]
 unfold zrc
 generalize evL tm (f++c)=vs
 cases zg9 (za5 vs) with
 | false=>simp [zmr]
 | true =>
  simp only [true_and]
  cases zav vs ((za5 vs).map (zbc hp)) with
  | some x=>obtain ⟨c',os⟩:=x; simp [zmr,zxu,Cop.wr,Cop.nmk,Cop.mk,z0g,zar,Res.nws]
  | none =>
   simp only [zxu]
   cases ((za5 vs).map (zbc hp)).all Option.isSome with
   | false=>simp [zmr]
   | true=>simp [zmr,Cop.wr,Cop.nmk,Cop.mk,z0g,zar,Res.nws]
def Zdc (off:Nat)(o:Obj)(x:Option (List D))(y:Option (List D × List (Option Obj))):Option (List D × List (Option Obj)):=match x,y with
 | some ds,some (c,os)=>some (.q ds off :: c,some (.cst ds) :: os)
 | _,_=>none
def Ziw (x:Option D)(y:Option (List D × List (Option Obj))):Option (List D × List (Option Obj)):=match x,y with
 | some ds,some (c,os)=>some (ds :: c,os)
 | _,_=>none
def z65 (id off:Nat)(vs:List V)(hp:List (Option Obj)):Option Obj→Option (List D × List (Option Obj))
 | some (.box cs)=>Zdc off (.box cs) (V.toDs cs) (zrc vs hp)
 | some (.cst ds)=>match zrc vs hp with | some (c,os)=>some (.q ds off :: c,some (.cst ds) :: os) | none=>none
 | _=>none
theorem z4u (id off:Nat)(vs:List V):zrc (.ptr id off :: vs) hp=z65 id off vs hp (zbc hp id):=by
 simp only [zrc,za5,Qb]
 cases ho:zbc hp id with
 | none=>simp [zav,z65]
 | some o =>
  cases o with
  | box cs=>simp only [zav,z65,Zdc,zrc]; cases V.toDs cs <;> cases zav vs ((za5 vs).map (zbc hp)) <;> rfl
  | cst ds=>simp only [zav,z65,zrc]; cases zav vs ((za5 vs).map (zbc hp)) <;> rfl
  | _=>simp [zav,z65]
theorem Zdd (x:D)(vs:List V):zrc (.d x :: vs) hp=Ziw (some x) (zrc vs hp):=by
 simp only [zrc,za5,zav,V.toD,Ziw]
 cases zav vs ((za5 vs).map (zbc hp)) <;> rfl
def zcc:V→List Nat
 | .map id=>[id]
 | _=>[]
def lkF (ag:Bool)(ks:List CK)(ok:Bool)(z:V)(hp:List (Option Obj))(m k:V):Option V:=zoe ag ks ok z [m,k] ((zcc m).map (zbc hp))
def muF (ag:Bool)(ks:List CK)(hp:List (Option Obj))(m k v:V):Option (List (Option Obj)):=match zj6 ag ks [m,k,v] ((zcc m).map (zbc hp)) with
 | some os=>some (zar hp (zcc m) os)
 | none=>none
def Zay (ag:Bool)(ks:List CK)(hp:List (Option Obj))(m k:V):Option (List (Option Obj)):=match zf2 ag ks [m,k] ((zcc m).map (zbc hp)) with
 | some os=>some (zar hp (zcc m) os)
 | none=>none
theorem Zde:go C K b (⟨some d,.mkm,none,p⟩ :: r) j tm hp es=go C K b r (j + 1) ((d,.map (b + j)) :: tm) (hp.set (b + j) (some (.map []))) (⟨[],false,b + j,1⟩ :: es):=by
 rw [zbe _ _ rfl]; rfl
theorem Zle (ag:Bool)(ks:List CK)(ok:Bool)(z:V)(m k:A):go C K b (⟨some d,.lk ag ks ok z m k,none,p⟩ :: r) j tm hp es=goV C K b d r j tm hp es (zcc (evT tm m)) (lkF ag ks ok z hp (evT tm m) (evT tm k)):=by
 rw [zbe _ _ rfl]
 simp only [Cop.args,Qb,Qc,act]
 have h1:Cop.ids (.lk ag ks ok z m k) [evT tm m,evT tm k]=zcc (evT tm m):=by cases evT tm m <;> rfl
 rw [h1]
 unfold lkF
 cases zoe ag ks ok z [evT tm m,evT tm k] ((zcc (evT tm m)).map (zbc hp)) <;> rfl
theorem Zlf (dst:Option Nat)(ag:Bool)(ks:List CK)(m k v:A):go C K b (⟨dst,.mu ag ks m k v,none,p⟩ :: r) j tm hp es=goH C K b dst r j tm es (zcc (evT tm m)) (muF ag ks hp (evT tm m) (evT tm k) (evT tm v)):=by
 rw [zbe _ _ rfl]
 simp only [Cop.args,Qb,Qc,act]
 have h1:Cop.ids (.mu ag ks m k v) [evT tm m,evT tm k,evT tm v]=zcc (evT tm m):=by cases evT tm m <;> rfl
 rw [h1]
 unfold muF
 cases zj6 ag ks [evT tm m,evT tm k,evT tm v] ((zcc (evT tm m)).map (zbc hp)) <;> rfl
theorem Zdf (dst:Option Nat)(ag:Bool)(ks:List CK)(m k:A):go C K b (⟨dst,.del ag ks m k,none,p⟩ :: r) j tm hp es=goH C K b dst r j tm es (zcc (evT tm m)) (Zay ag ks hp (evT tm m) (evT tm k)):=by
 rw [zbe _ _ rfl]
 simp only [Cop.args,Qb,Qc,act]
 have h1:Cop.ids (.del ag ks m k) [evT tm m,evT tm k]=zcc (evT tm m):=by cases evT tm m <;> rfl
 rw [h1]
 unfold Zay
 cases zf2 ag ks [evT tm m,evT tm k] ((zcc (evT tm m)).map (zbc hp)) <;> rfl
def Zix (hp:List (Option Obj))(m:V):Option V:=match m with
 | .map id=>match zbc hp id with
  | some (.map kvs)=>some (.d (.i .i64 kvs.length))
  | _=>none
 | _=>none
theorem z86 (x:A):go C K b (⟨some d,.len 2 x,none,p⟩ :: r) j tm hp es=goV C K b d r j tm hp es (zcc (evT tm x)) (Zix hp (evT tm x)):=by
 rw [zbe _ _ rfl]
 simp only [Cop.args,Qb,Qc,act]
 have h1:Cop.ids (.len 2 x) [evT tm x]=zcc (evT tm x):=by cases evT tm x <;> rfl
 rw [h1]
 cases evT tm x with
 | map id =>
  simp only [zcc,Qb,Qc,Zix]
  cases zbc hp id with
  | none=>rfl
  | some o=>cases o <;> rfl
 | d x=>cases x <;> rfl
 | _=>rfl
def z0x (neg:Bool)(x:V):Option V:=match zsu x with
 | some q=>some (.d (.b (if neg then !q else q)))
 | none=>none
theorem z87 (neg:Bool)(x:A):go C K b (⟨some d,.nilm neg x,none,p⟩ :: r) j tm hp es=goV C K b d r j tm hp es [] (z0x neg (evT tm x)):=by
 rw [zbe _ _ rfl]
 simp only [Cop.args,Qb,Qc,Cop.ids,act,z0x]
 cases zsu (evT tm x) <;> rfl
def Zdg (ks:List CK)(neg:Bool):V→V→Option V
 | .agg x,.agg y=>match V.toDs x,V.toDs y with
  | some x,some y=>match zb8 ks x y with | some q=>some (.d (.b (if neg then !q else q))) | none=>none
  | _,_=>none
 | _,_=>none
theorem Zdh (ks:List CK)(neg:Bool)(x y:A):go C K b (⟨some d,.eqa ks neg x y,none,p⟩ :: r) j tm hp es=goV C K b d r j tm hp es [] (Zdg ks neg (evT tm x) (evT tm y)):=by
 rw [zbe _ _ rfl]
 simp only [Cop.args,Qb,Qc,Cop.ids]
 generalize evT tm x=v
 generalize evT tm y=u
 cases v with
 | agg v =>
  cases u with
  | agg u =>
   simp only [act,Zdg]
   cases V.toDs v with
   | none=>cases V.toDs u <;> rfl
   | some a=>cases V.toDs u with
    | none=>rfl
    | some b=>simp only; cases zb8 ks a b <;> rfl
  | _=>rfl
 | _=>cases u <;> rfl
def Ziy (ag:Bool)(len sz:Nat):V→V→Option V
 | .agg cs,.d (.i _ i)=>if 0 ≤ i∧i < len then asO ag sz (zbn cs (i.toNat * sz) sz) else none
 | _,_=>none
theorem Zdi (ag:Bool)(len sz:Nat)(x y:A):go C K b (⟨some d,.ixa ag len sz x y,none,p⟩ :: r) j tm hp es=goV C K b d r j tm hp es [] (Ziy ag len sz (evT tm x) (evT tm y)):=by
 rw [zbe _ _ rfl]
 simp only [Cop.args,Qb,Qc,Cop.ids]
 generalize evT tm x=v
 generalize evT tm y=u
 cases v with
 | agg v =>
  cases u with
  | d u =>
   cases u with
   | i k i =>
    simp only [act,Ziy]
    by_cases hc:0 ≤ i∧i < len
    ·simp only [hc,and_self,if_true]
     cases zbn v (i.toNat * sz) sz with
     | none=>rfl
     | some c=>simp only [asO]; cases ze7 ag sz c <;> rfl
    ·simp only [hc,if_false]; rfl
   | _=>rfl
  | _=>rfl
 | _=>cases u <;> rfl
def Zaz (len sz:Nat):V→V→Option V
 | .ptr id o,.d (.i _ i)=>if 0 ≤ i∧i < len then some (.ptr id (o + i.toNat * sz)) else none
 | .d (.q ds o),.d (.i _ i)=>if 0 ≤ i∧i < len then some (.d (.q ds (o + i.toNat * sz))) else none
 | _,_=>none
theorem Zdj (len sz:Nat)(x y:A):go C K b (⟨some d,.iaa len sz x y,none,p⟩ :: r) j tm hp es=goV C K b d r j tm hp es [] (Zaz len sz (evT tm x) (evT tm y)):=by
 rw [zbe _ _ rfl]
 simp only [Cop.args,Qb,Qc,Cop.ids]
 generalize evT tm x=v
 generalize evT tm y=u
 cases v with
 | ptr id o =>
  cases u with
  | d u =>
   cases u with
   | i k i=>simp only [act,Zaz]; by_cases hc:0 ≤ i∧i < len <;> simp only [hc,and_self,if_true,if_false] <;> rfl
   | _=>rfl
  | _=>rfl
 | d v =>
  cases v with
  | q ds o =>
   cases u with
   | d u =>
    cases u with
    | i k i=>simp only [act,Zaz]; by_cases hc:0 ≤ i∧i < len <;> simp only [hc,and_self,if_true,if_false] <;> rfl
    | _=>rfl
   | _=>rfl
  | _=>cases u <;> rfl
 | _=>cases u <;> rfl
theorem Zlg (mx:Bool)(xs:List A):go C K b (⟨some d,.mm mx xs,none,p⟩ :: r) j tm hp es=goV C K b d r j tm hp es [] (oD (zh8 mx (evL tm xs))):=by
 rw [zbe _ _ rfl]
 simp only [Cop.args,Cop.ids,act,← zju]
 cases zh8 mx (evL tm xs) <;> rfl
def zvy (sz:Nat)(xs:List (List V))(i:Nat)(r:List (Nat × V))(c:Option (List V)):Option (List (List V)):=match c with
 | some c=>if c.length=sz∧i < xs.length then ziz sz (xs.set i c) r else none
 | none=>none
theorem zxv (sz:Nat)(xs:List (List V))(i:Nat)(x:V)(r:List (Nat × V)):ziz sz xs ((i,x) :: r)=zvy sz xs i r x.cel:=by
 simp only [ziz,zvy]; cases x.cel <;> rfl
def goR (C:za0)(K:St→List Foot→Prop)(b d sz n:Nat)(r:List CO)(j:Nat)(tm:List (Nat × V))(hp:List (Option Obj))(es:List Foot):Option (List (List V))→Prop
 | some xs=>go C K b r (j + 1) ((d,.arr (b + j) 0 0 n) :: tm) (hp.set (b + j) (some (.arr 0 sz xs))) (⟨[],false,b + j,1⟩ :: es)
 | none=>False
theorem Zdk (sz n:Nat)(z:List D)(ps:List (Nat × A)):go C K b (⟨some d,.bsa sz n z ps,none,p⟩ :: r) j tm hp es=goR C K b d sz n r j tm hp es (ziz sz (List.replicate n (ofDs z)) (evI tm ps)):=by
 rw [zbe _ _ rfl]
 simp only [Cop.args,Cop.ids,act]
 have h1:zy6 ps ((ps.map (·.2)).map (evT tm))=evI tm ps:=by
  unfold evI
  induction ps with
  | nil=>rfl
  | cons q ps ih=>obtain ⟨a,x⟩:=q; simp only [Qb,zy6,ih]
 rw [h1]
 cases ziz sz (List.replicate n (ofDs z)) (evI tm ps) <;> rfl
theorem z88 (x:A):go C K b (⟨some d,.capn x,none,p⟩ :: r) j tm hp es=goV C K b d r j tm hp es [] (match evT tm x with | .nil _=>some (.d (.i .i64 0)) | _=>none):=by
 rw [zbe _ _ rfl]
 simp only [Cop.args,Qb,Qc,Cop.ids,act]
 cases evT tm x <;> rfl
def Zdl (sz bytes fresh:Nat)(z:List D):V→V→Option (V × Obj)
 | .nil _,.d (.i _ n)=>if 0 ≤ n∧za4 n.toNat bytes then some (.arr fresh 0 0 n.toNat,.arr 0 sz (List.replicate n.toNat (ofDs z))) else none
 | _,_=>none
theorem Zdm (sz bytes:Nat)(z:List D)(x y:A):go C K b (⟨some d,.apz sz bytes z x y,none,p⟩ :: r) j tm hp es=(match Zdl sz bytes (b + j) z (evT tm x) (evT tm y) with
  | some (v,o)=>go C K b r (j + 1) ((d,v) :: tm) (hp.set (b + j) (some o)) (⟨[],true,b + j,1⟩ :: es)
  | none=>False):=by
 rw [zbe _ _ rfl]
 simp only [Cop.args,Qb,Qc]
 generalize evT tm x=v
 generalize evT tm y=u
 cases v with
 | nil s =>
  cases u with
  | d u =>
   cases u with
   | i k n =>
    simp only [Cop.ids,Qc,act,zni,Zdl]
    by_cases hc:0 ≤ n∧za4 n.toNat bytes=true
    ·simp only [hc,and_self,if_true]; rfl
    ·simp only [hc,if_false]; rfl
   | _=>rfl
  | _=>rfl
 | arr id ver off len =>
  simp only [Cop.ids,act,zni,Zdl]; rfl
 | _=>cases u <;> rfl
def z89 (sz:Nat)(hp:List (Option Obj))(y:V):Option (List (List V)):=zec sz y ((zbv y).map (zbc hp))
def z9a (C:za0)(K:St→List Foot→Prop)(b d sz bytes:Nat)(r:List CO)(j:Nat)(tm:List (Nat × V))(hp:List (Option Obj))(es:List Foot)(x y:V)(ys:Option (List (List V))):Prop:=match x with
 | .nil _=>match ys with
  | some ys=>za4 ys.length bytes=true∧go C K b r (j + 1) ((d,.arr (b + j) 0 0 ys.length) :: tm) (zar (zar hp (zbv y) ((zbv y).map (zbc hp))) [b + j] [some (.arr 0 sz ys)]) (⟨zbv y,true,b + j,1⟩ :: es)
  | none=>False
 | .arr id ver off len=>match zbc hp id,ys with
  | some (.arr ver' sz' xs),some ys=>(ver=ver'∧sz'=sz∧off + len ≤ xs.length∧y.other id=true∧za4 (len + ys.length) bytes=true) ∧
    go C K b r (j + 1) ((d,.arr id (ver + 1) 0 (len + ys.length)) :: tm) (zar hp (id :: zbv y) (some (.arr (ver + 1) sz ((xs.drop off).take len++ys)) :: (zbv y).map (zbc hp))) (⟨id :: zbv y,true,b + j,0⟩ :: es)
  | _,_=>False
 | _=>False
theorem Zdn (sz bytes:Nat)(x y:A):go C K b (⟨some d,.apa sz bytes x y,none,p⟩ :: r) j tm hp es=z9a C K b d sz bytes r j tm hp es (evT tm x) (evT tm y) (z89 sz hp (evT tm y)):=by
 rw [zbe _ _ rfl]
 simp only [Cop.args,Qb,Qc,act]
 generalize evT tm x=v
 generalize evT tm y=u
 have hi:zoj u=zbv u:=by cases u <;> rfl
 cases v with
 | nil s =>
  rw [zgg,hi]
  simp only [zfn,zst,z9a,z89]
  cases zec sz u ((zbv u).map (zbc hp)) with
  | none=>rfl
  | some ys =>
   simp only
   by_cases hr:za4 ys.length bytes=true
   ·simp only [hr,if_true,true_and]; rfl
   ·simp only [hr]; simp [zmr]
 | arr id ver off len =>
  rw [zgh,hi]
  simp only [zfn,Qb,z9a,z89]
  unfold zwq
  cases ho:zbc hp id with
  | none=>rfl
  | some o =>
   cases o with
   | arr ver' sz' xs =>
    simp only
    by_cases hc:ver=ver'∧sz'=sz∧off + len ≤ xs.length∧u.other id=true
    ·rw [if_pos hc]
     cases zec sz u ((zbv u).map (zbc hp)) with
     | none=>rfl
     | some ys =>
      simp only
      by_cases hr:za4 (len + ys.length) bytes=true
      ·rw [if_pos hr]
       exact propext ⟨fun h=>⟨⟨hc.1,hc.2.1,hc.2.2.1,hc.2.2.2,hr⟩,h⟩,fun h=>h.2⟩
      ·rw [if_neg hr]
       exact propext ⟨fun h=>h.elim,fun h=>hr h.1.2.2.2.2⟩
    ·rw [if_neg hc]
     cases zec sz u ((zbv u).map (zbc hp)) with
     | none=>rfl
     | some ys=>simp only [zmr]; exact propext ⟨fun h=>h.elim,fun h=>hc ⟨h.1.1,h.1.2.1,h.1.2.2.1,h.1.2.2.2.1⟩⟩
   | _=>rfl
 | _=>rfl
def zvz (C:za0)(K:St→List Foot→Prop)(b:Nat)(dst:Option Nat)(key:Nat)(r:List CO)(j:Nat)(tm:List (Nat × V))(hp:List (Option Obj))(es:List Foot)(hs:Option (List V)):Prop :=
 zjm C K b dst 0 r j tm hp es (zrb (za9 .lend C) (zbc hp) key 0 (b + j) hs)
theorem z9b (dst:Option Nat)(key:Nat)(as:List A):go C K b (⟨dst,.lend key as,none,p⟩ :: r) j tm hp es=zvz C K b dst key r j tm hp es (V.handAll (evL tm as)):=by
 have ho:(⟨tm,hp⟩:St).obj=zbc hp:=rfl
 simp only [go,rgo,zck,wanted,zmq,Cop.isCall,if_true,callee,Cop.args,ho,zgz,zju,zvz]
 rw [show Md.lend.hands (as.map (evT tm))=V.handAll (as.map (evT tm)) from rfl]
 cases zrb (za9 .lend C) (zbc hp) key 0 (b + j) (V.handAll (as.map (evT tm))) with
 | none=>rfl
 | some x=>obtain ⟨v,is,os,ns⟩:=x; cases dst <;> rfl
theorem z4v (dst:Option Nat)(key:Nat)(as:List A)(res:Nat):go C K b (⟨dst,.callr key as res,none,p⟩ :: r) j tm hp es=zjm C K b dst res r j tm hp es (zrb C (zbc hp) key res (b + j) (V.rawAll (evL tm as))):=by
 have ho:(⟨tm,hp⟩:St).obj=zbc hp:=rfl
 simp only [go,rgo,zck,wanted,zmq,Cop.isCall,if_true,callee,Cop.args,ho,zgz,zju]
 rw [show Md.raw.hands (as.map (evT tm))=V.rawAll (as.map (evT tm)) from rfl,show za9 .raw C=C from rfl]
 cases zrb C (zbc hp) key res (b + j) (V.rawAll (as.map (evT tm))) with
 | none=>rfl
 | some x=>obtain ⟨v,is,os,ns⟩:=x; cases dst <;> rfl
def z0y (h:List (Option Obj)):Option (V × List (Option Obj))→Option (V × List (Option Obj))
 | some (v,[])=>if v.scal then some (v,h) else none
 | _=>none
theorem z4w (key:Nat)(as:List V)(h:List (Option Obj)):za9 .lend C key as h=(match zb1 (zbc h) as with | some ds=>z0y h (C key ds []) | none=>none):=by
 show (match zb1 (fun i=>(h[i]?).join) as with | none=>none | some ds=>_)=_
 show _=(match zb1 (fun i=>(h[i]?).join) as with | some ds=>z0y h (C key ds []) | none=>none)
 cases zb1 (fun i=>(h[i]?).join) as with
 | none=>rfl
 | some ds =>
  simp only
  cases C key ds [] with
  | none=>rfl
  | some x =>
   obtain ⟨v,h'⟩:=x
   cases h' <;> rfl
end
theorem zlg (obj:Nat→Option Obj):∀ (f:Nat) (ds:List D),ds.length < f→zeo obj f (ofDs ds)=some ds
 | 0,ds,h=>by omega
 | f + 1,[],_=>rfl
 | f + 1,x :: ds,h=>by
  have h:ds.length < f:=by simpa using h
  obtain ⟨f,rfl⟩:∃ g,f=g + 1:=⟨f - 1,by omega⟩
  simp [ofDs,zeo,V.lend,V.toD]
  have:=zlg obj (f + 1) ds h
  simp only [ofDs] at this
  rw [this]
theorem zjv (obj:Nat→Option Obj)(n:Nat):∀ (f:Nat) (xs:List (List D)),(∀ r ∈ xs,r.length ≤ n)→xs.length + n < f→zez obj f (xs.map ofDs)=some xs
 | 0,xs,_,h=>by omega
 | f + 1,[],_,_=>rfl
 | f + 1,r :: xs,hr,h=>by
  simp only [List.length_cons] at h
  have h1:=zlg obj f r (by have:=hr r (by simp); omega)
  have h2:=zjv obj n f xs (fun r h=>hr r (List.mem_cons_of_mem _ h)) (by omega)
  simp only [Qb,zez,h1,h2]
theorem zv0 {obj:Nat→Option Obj}{id v sz off len n:Nat}{xs:List (List D)}(ho:obj id=some (.arr v sz (xs.map ofDs)))(hr:∀ r ∈ xs,r.length ≤ n)(hn:xs.length + n < 4000)(hl:off + len ≤ xs.length) :
  V.lend obj far (.arr id v off len)=some (.l sz ((xs.drop off).take len)):=by
 show (match obj id with
  | some (.arr ver' sz' ys)=>if v=ver'∧off + len ≤ ys.length then match zez obj 4095 ys with
    | some ds=>some (D.l sz' ((ds.drop off).take len))
    | none=>none
   else none
  | _=>none)=_
 rw [ho]
 simp only [Qf,hl,and_self,if_true,zjv obj n 4095 xs hr (by omega)]
section
variable (E:Nat→Option Fn) (Q:Ex→St→Prop)
theorem Zdo (a b:CCode)(s:St):WX E (.seq a b) s Q=WX E a s (zrx E b Q):=by
 refine propext ⟨fun ⟨ex,s',h1,h2⟩=>?_,Zbq⟩
 rw [zso] at h1
 split at h1
 ·rename_i s1 ha
  exact ⟨.normal,s1,ha,ex,s',h1,h2⟩
 ·rename_i hne
  refine ⟨ex,s',h1, ?_⟩
  cases ex with
  | normal=>exact absurd h1 (hne s')
  | exit id=>exact h2
  | ret=>exact h2
theorem z9c (s:St):WX E .skip s Q=Q .normal s:=by
 refine propext ⟨fun ⟨ex,s',h1,h2⟩=>?_,z77⟩
 rw [zul] at h1; cases h1; exact h2
theorem z9d (id:Nat)(s:St):WX E (.exit id) s Q=Q (.exit id) s:=by
 refine propext ⟨fun ⟨ex,s',h1,h2⟩=>?_,z78⟩
 rw [zum] at h1; cases h1; exact h2
theorem Zdp (s:St):WX E .ret s Q=Q .ret s:=by
 refine propext ⟨fun ⟨ex,s',h1,h2⟩=>?_,Zbp⟩
 rw [z1r] at h1; cases h1; exact h2
theorem z4x (id:Nat)(c:CCode)(s:St):WX E (.block id c) s Q=WX E c s (zcw id Q):=by
 refine propext ⟨fun ⟨ex,s',h1,h2⟩=>?_,z3v⟩
 rw [zhn] at h1
 cases hc:lx E c s with
 | none=>rw [hc] at h1; cases h1
 | some x =>
  obtain ⟨ex1,s1⟩:=x
  rw [hc] at h1
  refine ⟨ex1,s1,hc, ?_⟩
  cases ex1 with
  | normal=>cases h1; exact h2
  | ret=>cases h1; exact h2
  | exit id' =>
   simp only at h1
   simp only [zcw]
   split at h1
   ·rename_i e; cases h1; rw [if_pos e]; exact h2
   ·rename_i e; cases h1; rw [if_neg e]; exact h2
def z4y (v:V)(p q:Prop):Prop:=match v with
 | .d (.b x)=>if x=true then p else q
 | _=>False
theorem z9e (c:A)(a b:CCode)(tm:List (Nat × V))(hp:List (Option Obj)):WX E (.cond c a b) ⟨tm,hp⟩ Q=z4y (evT tm c) (WX E a ⟨tm,hp⟩ Q) (WX E b ⟨tm,hp⟩ Q):=by
 have he:(⟨tm,hp⟩:St).ev c=evT tm c:=congrFun (zmq tm hp) c
 refine propext ⟨fun ⟨ex,s',h1,h2⟩=>?_,fun h=>?_⟩
 ·rw [zqp,he] at h1
  split at h1
  ·rename_i e; rw [e]; exact ⟨ex,s',h1,h2⟩
  ·rename_i e; rw [e]; exact ⟨ex,s',h1,h2⟩
  ·cases h1
 ·unfold z4y at h
  split at h
  ·rename_i x e
   cases x with
   | true=>exact z0e true (by rw [he,e]) (fun _=>h) (fun h=>by cases h)
   | false=>exact z0e false (by rw [he,e]) (fun h=>by cases h) (fun _=>h)
  ·exact h.elim
theorem z0z {ops:List CO}{tm:List (Nat × V)}{hp:List (Option Obj)}(h:go (lcall E) (fun s _=>Q .normal s) hp.length ops 0 tm (hp++more (zax ops)) []):WX E (.region false ops) ⟨tm,hp⟩ Q:=by
 refine z0w (fun K hK=>?_)
 have mono:∀ (ops:List CO) (j:Nat) (s:St) (es:List Foot),rgo (lcall E) hp.length ops j s es (fun s _=>Q .normal s)→rgo (lcall E) hp.length ops j s es K:=by
  intro ops
  induction ops with
  | nil=>intro j s es h; exact hK _ _ h
  | cons o r ih =>
   intro j s es h
   simp only [rgo] at h ⊢
   split at h
   ·exact h.elim
   ·exact ih _ _ _ h
 exact mono _ _ _ _ h
end
open Go
theorem z00 {C:za0}{base:Nat}:∀ (ops:List CO) (j:Nat) (s:St) (es:List Foot) (K:St→List Foot→Prop) (s':St) (es':List Eff),zcd C base ops j s=some (s',es')→K s' (es.reverse++es'.map Eff.foot)→rgo C base ops j s es K
 | [],j,s,es,K,s',es',h,hk=>by
  simp only [zcd,Qa,Qj] at h
  obtain ⟨rfl,rfl⟩:=h
  simpa [rgo] using hk
 | o :: r,j,s,es,K,s',es',h,hk=>by
  simp only [zcd] at h
  simp only [rgo]
  split at h
  ·cases h
  ·rename_i e he
   split at h
   ·rename_i s2 es2 hes
    simp only [Qa,Qj] at h
    obtain ⟨rfl,rfl⟩:=h
    rw [he]
    exact z00 r _ _ (e.foot :: es) K s2 es2 hes (by simpa only [List.reverse_cons,List.append_assoc,Qb,List.singleton_append] using hk)
   ·cases h
section
variable (E:Nat→Option Fn) (Q:Ex→St→Prop)
theorem Zdq (ops:List CO)(tm:List (Nat × V))(hp:List (Option Obj)):WX E (.region false ops) ⟨tm,hp⟩ Q=go (lcall E) (fun s _=>Q .normal s) hp.length ops 0 tm (hp++more (zax ops)) []:=by
 refine propext ⟨fun ⟨ex,s',h1,h2⟩=>?_,z0z E Q⟩
 rw [zg8] at h1
 split at h1
 ·rename_i s2 hs
  simp only [Qa,Qj] at h1
  obtain ⟨rfl,rfl⟩:=h1
  unfold zbb at hs
  simp only [Qm,if_false] at hs
  split at hs
  ·rename_i s3 es3 he
   simp only [Qa] at hs
   subst hs
   unfold go
   rw [zmp]
   exact z00 ops 0 _ [] _ _ _ he h2
  ·cases hs
 ·cases h1
theorem z9f (ops:List CO)(tm:List (Nat × V))(hp:List (Option Obj)):WX E (.region true ops) ⟨tm,hp⟩ Q=go (lcall E) (fun s es=>zmo ops es 0=true∧Q .normal s) hp.length ops 0 tm (hp++more (zax ops)) []:=by
 refine propext ⟨fun ⟨ex,s',h1,h2⟩=>?_,fun h=>?_⟩
 ·rw [zg8] at h1
  split at h1
  ·rename_i s2 hs
   simp only [Qa,Qj] at h1
   obtain ⟨rfl,rfl⟩:=h1
   unfold zbb at hs
   simp only [if_true] at hs
   split at hs
   ·rename_i s3 es3 he
    split at hs
    ·rename_i hn
     simp only [Qa] at hs
     subst hs
     unfold go
     rw [zmp]
     exact z00 ops 0 _ [] _ _ _ he ⟨by rw [List.reverse_nil,List.nil_append,zkm]; exact hn,h2⟩
    ·cases hs
   ·cases hs
  ·cases h1
 ·obtain ⟨s',es,h1,h2,h3⟩:=z0f ops 0 _ [] _ h
  refine ⟨.normal,s', ?_,h3⟩
  rw [zg8]
  unfold zbb
  rw [zmp] at h1
  simp only [List.reverse_nil,List.nil_append] at h2
  rw [zkm] at h2
  simp only [h1,if_true,h2]
end
def fin (m:Nat)(rets:List Ret)(r:V × List (Option Obj))(ex:Ex)(s:St):Prop:=(ex = .normal ∨ ex = .ret)∧zdo m s rets=some r
theorem zaq {E:Nat→Option Fn}{key:Nat}{f:CFn}(h:E key=some (.code f)){args:List V}{hp:List (Option Obj)}{r:V × List (Option Obj)}(k:WX E f.body (zj7 args hp) (fin hp.length f.rets r)):lcall E key args hp=some r:=z79 h k
def Zdr (m:Nat)(rets:List Ret)(R:V × List (Option Obj)→Prop)(ex:Ex)(s:St):Prop:=(ex = .normal ∨ ex = .ret)∧∃ r,zdo m s rets=some r∧R r
theorem zud {E:Nat→Option Fn}{key:Nat}{f:CFn}(h:E key=some (.code f)){args:List V}{hp:List (Option Obj)}{R:V × List (Option Obj)→Prop}(k:WX E f.body (zj7 args hp) (Zdr hp.length f.rets R)):∃ r,lcall E key args hp=some r∧R r:=z3w h k
def Za0 (R:V × List (Option Obj)→Prop):Option (V × List (Option Obj))→Prop
 | some r=>R r
 | none=>False
theorem evQ :
  (∀ (E:Nat→Option Fn) (Q:Ex→St→Prop) (a b:CCode) (s:St),WX E (.seq a b) s Q=WX E a s (zrx E b Q)) ∧
  (∀ (E:Nat→Option Fn) (Q:Ex→St→Prop) (s:St),WX E .skip s Q=Q .normal s) ∧
  (∀ (E:Nat→Option Fn) (Q:Ex→St→Prop) (id:Nat) (s:St),WX E (.exit id) s Q=Q (.exit id) s) ∧
  (∀ (E:Nat→Option Fn) (Q:Ex→St→Prop) (s:St),WX E .ret s Q=Q .ret s) ∧
  (∀ (E:Nat→Option Fn) (Q:Ex→St→Prop) (id:Nat) (c:CCode) (s:St),WX E (.block id c) s Q=WX E c s (zcw id Q)) ∧
  (∀ (E:Nat→Option Fn) (Q:Ex→St→Prop) (c:A) (a b:CCode) (tm:List (Nat × V)) (hp:List (Option Obj)),WX E (.cond c a b) ⟨tm,hp⟩ Q=z4y (evT tm c) (WX E a ⟨tm,hp⟩ Q) (WX E b ⟨tm,hp⟩ Q)) ∧
  (∀ (E:Nat→Option Fn) (Q:Ex→St→Prop) (ops:List CO) (tm:List (Nat × V)) (hp:List (Option Obj)),WX E (.region false ops) ⟨tm,hp⟩ Q=go (lcall E) (fun s _=>Q .normal s) hp.length ops 0 tm (hp++more (zax ops)) []) ∧
  (∀ (E:Nat→Option Fn) (Q:Ex→St→Prop) (ops:List CO) (tm:List (Nat × V)) (hp:List (Option Obj)),WX E (.region true ops) ⟨tm,hp⟩ Q=go (lcall E) (fun s es=>zmo ops es 0=true∧Q .normal s) hp.length ops 0 tm (hp++more (zax ops)) []) ∧
  (∀ (E:Nat→Option Fn) (Q:Ex→St→Prop) (b:CCode) (s:St),zrx E b Q .normal s=WX E b s Q) ∧
  (∀ (E:Nat→Option Fn) (Q:Ex→St→Prop) (b:CCode) (id:Nat) (s:St),zrx E b Q (.exit id) s=Q (.exit id) s) ∧
  (∀ (E:Nat→Option Fn) (Q:Ex→St→Prop) (b:CCode) (s:St),zrx E b Q .ret s=Q .ret s) ∧
  (∀ (Q:Ex→St→Prop) (id:Nat) (s:St),zcw id Q .normal s=Q .normal s) ∧
  (∀ (Q:Ex→St→Prop) (id:Nat) (s:St),zcw id Q .ret s=Q .ret s) ∧
  (∀ (Q:Ex→St→Prop) (id id':Nat) (s:St),zcw id Q (.exit id') s=if id'=id then Q .normal s else Q (.exit id') s) ∧
  (∀ (x:Bool) (p q:Prop),z4y (.d (.b x)) p q=if x=true then p else q) ∧
  (∀ (m:Nat) (rets:List Ret) (r:V × List (Option Obj)) (tm:List (Nat × V)) (hp:List (Option Obj)),fin m rets r .normal ⟨tm,hp⟩=(zy1 m hp (zc8 ⟨tm,hp⟩ rets)=some r)) ∧
  (∀ (m:Nat) (rets:List Ret) (r:V × List (Option Obj)) (tm:List (Nat × V)) (hp:List (Option Obj)),fin m rets r .ret ⟨tm,hp⟩=(zy1 m hp (zc8 ⟨tm,hp⟩ rets)=some r)) ∧
  (∀ (m:Nat) (rets:List Ret) (R:V × List (Option Obj)→Prop) (tm:List (Nat × V)) (hp:List (Option Obj)),Zdr m rets R .normal ⟨tm,hp⟩=Za0 R (zy1 m hp (zc8 ⟨tm,hp⟩ rets))) ∧
  (∀ (m:Nat) (rets:List Ret) (R:V × List (Option Obj)→Prop) (tm:List (Nat × V)) (hp:List (Option Obj)),Zdr m rets R .ret ⟨tm,hp⟩=Za0 R (zy1 m hp (zc8 ⟨tm,hp⟩ rets))) ∧
  (∀ (R:V × List (Option Obj)→Prop) (r:V × List (Option Obj)),Za0 R (some r)=R r):=by
 have hP:∀ (m:Nat) (rets:List Ret) (R:V × List (Option Obj)→Prop) (tm:List (Nat × V)) (hp:List (Option Obj)),(∃ r,zdo m ⟨tm,hp⟩ rets=some r∧R r)=Za0 R (zy1 m hp (zc8 ⟨tm,hp⟩ rets)):=fun m rets R tm hp=>by
  rw [zhm]
  cases zy1 m hp (zc8 ⟨tm,hp⟩ rets) with
  | none=>simp [Za0]
  | some r=>simp [Za0]
 refine ⟨?_, ?_, ?_, ?_, ?_, ?_, ?_, ?_, ?_, ?_, ?_, ?_, ?_, ?_, ?_, ?_, ?_, ?_, ?_, ?_⟩
 ·intro E Q a b s; exact Zdo E Q a b s
 ·intro E Q s; exact z9c E Q s
 ·intro E Q id s; exact z9d E Q id s
 ·intro E Q s; exact Zdp E Q s
 ·intro E Q id c s; exact z4x E Q id c s
 ·intro E Q c a b tm hp; exact z9e E Q c a b tm hp
 ·intro E Q ops tm hp; exact Zdq E Q ops tm hp
 ·intro E Q ops tm hp; exact z9f E Q ops tm hp
 ·intro E Q b s; rfl
 ·intro E Q b id s; rfl
 ·intro E Q b s; rfl
 ·intro Q id s; rfl
 ·intro Q id s; rfl
 ·intro Q id id' s; rfl
 ·intro x p q; rfl
 ·intro m rets r tm hp; simp [fin,zhm]
 ·intro m rets r tm hp; simp [fin,zhm]
 ·intro m rets R tm hp; unfold Zdr; rw [hP]; simp
 ·intro m rets R tm hp; unfold Zdr; rw [hP]; simp
 ·intro R r; rfl
open Go
section
variable {E:Nat→Option Fn} {Q:Ex→St→Prop} {tm:List (Nat × V)} {hp:List (Option Obj)}
def rg4 (K:Ex→St→Prop)(tm:List (Nat × V))(l:Nat)(h:List (Option Obj))(key:Nat)(caps:List V):Option Ex→Prop
 | some ex=>K ex ⟨tm,h.set l (some (.lp 1 key caps))⟩
 | none=>False
def rg3 (K:Ex→St→Prop)(tm:List (Nat × V))(l:Nat)(h:List (Option Obj)):Option Obj→Prop
 | some (.lp j key caps)=>rg4 K tm l h key caps (z3b j)
 | _=>False
def rg2 (K:Ex→St→Prop)(tm:List (Nat × V))(h0:List (Option Obj))(l:Nat):Option (V × List Nat × List (Option Obj) × List (Option Obj))→Prop
 | some (_,is,os,ns)=>rg3 K tm l (zar (zar h0 is os) (List.range' (l + 1) ns.length) ns) (zbc (zar (zar h0 is os) (List.range' (l + 1) ns.length) ns) l)
 | none=>False
def rg1 (C:za0)(K:Ex→St→Prop)(tm:List (Nat × V))(h0:List (Option Obj))(l res:Nat):Option (Nat × List V)→Prop
 | some (k,vs)=>rg2 K tm h0 l (zrb C (zbc h0) k res (l + 1) (V.handAll vs))
 | none=>False
def zir (tm:List (Nat × V)):List Nat→List V
 | []=>[]
 | t :: r=>za1 tm t :: zir tm r
theorem zv1 (tm:List (Nat × V)):∀ (ks:List Nat),ks.map (za1 tm)=zir tm ks
 | []=>rfl
 | t :: r=>by simp only [Qb,zir,zv1 tm r]
def zlh:List (Nat × Nat)→St→St
 | [],s=>s
 | t :: r,s=>zlh r (zdn s t)
def rg0 (C:za0)(K:Ex→St→Prop)(f:A)(key res:Nat)(ks:List Nat):St→Prop
 | ⟨tm,hp⟩=>rg1 C K tm (hp++some (.lp 0 key (zir tm ks)) :: more res) hp.length res (zei (evT tm f) (.fn key [.map hp.length] []))
def Zoo (K:Ex→St→Prop):Option (Ex × St)→Prop
 | some (ex,s)=>K ex s
 | none=>False
theorem Zds (C:za0)(K:Ex→St→Prop)(f:A)(key res:Nat)(ks:List Nat)(tm:List (Nat × V))(hp:List (Option Obj)):Zoo K (ze8 C f key ks res ⟨tm,hp⟩)=rg0 C K f key res ks ⟨tm,hp⟩:=by
 simp only [rg0]
 unfold ze8
 have hcaps:List.map (St.get ⟨tm,hp⟩) ks=zir tm ks:=zv1 tm ks
 have hev:St.ev ⟨tm,hp⟩ f=evT tm f:=by rw [zmq]
 simp only [hcaps,hev,← zmp]
 cases hr:zei (evT tm f) (.fn key [.map hp.length] []) with
 | none=>rfl
 | some x =>
  obtain ⟨k,vs⟩:=x
  simp only [rg1]
  have hob:St.obj ⟨tm,hp++some (.lp 0 key (zir tm ks)) :: more res⟩=zbc (hp++some (.lp 0 key (zir tm ks)) :: more res):=rfl
  simp only [hob,zgz]
  have hh:Md.hands .keep vs=V.handAll vs:=rfl
  rw [hh]
  cases he:zrb C (zbc (hp++some (.lp 0 key (zir tm ks)) :: more res)) k res (hp.length + 1) (V.handAll vs) with
  | none=>rfl
  | some x =>
   obtain ⟨r,is,os,ns⟩:=x
   simp only [rg2]
   have hon:(⟨none,r,is,true,os,hp.length + 1,ns⟩:Eff).on ⟨tm,hp++some (.lp 0 key (zir tm ks)) :: more res⟩=⟨tm,zar (zar (hp++some (.lp 0 key (zir tm ks)) :: more res) is os) (List.range' (hp.length + 1) ns.length) ns⟩:=rfl
   simp only [hon]
   generalize zar (zar (hp++some (.lp 0 key (zir tm ks)) :: more res) is os) (List.range' (hp.length + 1) ns.length) ns=H
   have hob2:St.obj ⟨tm,H⟩ hp.length=zbc H hp.length:=rfl
   simp only [hob2]
   cases ho:zbc H hp.length with
   | none=>rfl
   | some o =>
    cases o with
    | lp j key' caps =>
     simp only [rg3]
     cases hx:z3b j <;> rfl
    | _=>rfl
theorem z4z (E:Nat→Option Fn)(Q:Ex→St→Prop)(own:List (Nat × Nat))(f:A)(key res:Nat)(ks:List Nat)(s:St):WX E (.range own f key ks res) s Q=rg0 (lcall E) Q f key res ks (zlh own s):=by
 have hb:∀ (l:List (Nat × Nat)) (s:St),l.foldl zdn s=zlh l s:=by
  intro l
  induction l with
  | nil=>intro s; rfl
  | cons t l ih=>intro s; exact ih _
 unfold WX
 rw [zwn,hb]
 cases zlh own s with
 | mk tm hp =>
  rw [← Zds]
  cases ze8 (lcall E) f key ks res ⟨tm,hp⟩ with
  | none=>exact propext ⟨fun ⟨_,_,h,_⟩=>by (cases h),fun h=>h.elim⟩
  | some x =>
   obtain ⟨ex,s'⟩:=x
   exact propext ⟨fun ⟨_,_,h,k⟩=>by cases h; exact k,fun h=>⟨ex,s',rfl,h⟩⟩
def rd4 (K:Ex→St→Prop)(tm:List (Nat × V))(hp:List (Option Obj))(id:Nat):Option Obj→Prop
 | some (.lp 0 k c)=>K .normal ⟨tm,hp.set id (some (.lp 1 k c))⟩
 | _=>False
def rdA (id:Nat)(K:Ex→St→Prop):Ex→St→Prop
 | .normal,⟨tm,hp⟩=>rd4 K tm hp id (zbc hp id)
 | _,_=>False
def rd5 (m id:Nat)(ex:Ex)(hp:List (Option Obj))(r:V × List (Option Obj)):Option Obj→Prop
 | some (.lp 1 k c)=>zy1 m (hp.set id (some (.lp (z55 ex) k c))) (some [.d (.b (decide (ex = .normal)))])=some r
 | _=>False
def rdB (m id:Nat)(r:V × List (Option Obj)):Ex→St→Prop
 | ex,⟨tm,hp⟩=>rd5 m id ex hp r (zbc hp id)
end
theorem evG :
  (∀ (j key:Nat) (cs:List V),Obj.refs (some (.lp j key cs))=V.refsAll cs) ∧
  (∀ (f sh:Nat→Nat) (s j key:Nat) (cs:List V),Obj.ren f sh s (.lp j key cs) = .lp j key (V.renAll f sh cs)) ∧
  (∀ (j key:Nat) (cs:List V),zog (some (.lp j key cs))=0) ∧
  (∀ (n j key:Nat) (cs:List V),Obj.under n (some (.lp j key cs))=V.underAll n cs) ∧
  (∀ (h:List (Option Obj)) (j key:Nat) (cs:List V),zbp h (some (.lp j key cs))=some (.lp j key (cs.map (zdq h)))) ∧
  (∀ (k id:Nat),V.hand (.fn k [.map id] [])=some (.fn k [.map id] [])) ∧
  (∀ (k id off:Nat) (r:List V),V.hand (.fn k [] (.ptr id off :: r))=match V.handAll (.ptr id off :: r) with | some c=>some (.fn k [] c) | none=>none) ∧
  (∀ (n k id:Nat),V.under n (.fn k [.map id] [])=decide (id < n)) ∧
  (∀ (h:List (Option Obj)) (k id:Nat),zc5 h (.fn k [.map id] []) = .fn k [.map id] []) ∧
  (∀ (k id:Nat),V.fine (.fn k [.map id] [])=true) ∧
  (∀ (tm:List (Nat × V)),zir tm []=[]) ∧
  (∀ (tm:List (Nat × V)) (t:Nat) (r:List Nat),zir tm (t :: r)=za1 tm t :: zir tm r) ∧
  (∀ (s:St),zlh [] s=s) ∧
  (∀ (s:St) (t:Nat × Nat) (r:List (Nat × Nat)),zlh (t :: r) s=zlh r (zdn s t)) ∧
  (∀ (C:za0) (K:Ex→St→Prop) (f:A) (key res:Nat) (ks:List Nat) (tm:List (Nat × V)) (hp:List (Option Obj)),rg0 C K f key res ks ⟨tm,hp⟩=rg1 C K tm (hp++some (.lp 0 key (zir tm ks)) :: more res) hp.length res (zei (evT tm f) (.fn key [.map hp.length] []))) ∧
  (∀ (C:za0) (K:Ex→St→Prop) (tm:List (Nat × V)) (h0:List (Option Obj)) (l res k:Nat) (vs:List V),rg1 C K tm h0 l res (some (k,vs))=rg2 K tm h0 l (zrb C (zbc h0) k res (l + 1) (V.handAll vs))) ∧
  (∀ (K:Ex→St→Prop) (tm:List (Nat × V)) (h0:List (Option Obj)) (l:Nat) (r:V) (is:List Nat) (os ns:List (Option Obj)),rg2 K tm h0 l (some (r,is,os,ns))=rg3 K tm l (zar (zar h0 is os) (List.range' (l + 1) ns.length) ns) (zbc (zar (zar h0 is os) (List.range' (l + 1) ns.length) ns) l)) ∧
  (∀ (K:Ex→St→Prop) (tm:List (Nat × V)) (l:Nat) (h:List (Option Obj)) (j key:Nat) (caps:List V),rg3 K tm l h (some (.lp j key caps))=rg4 K tm l h key caps (z3b j)) ∧
  (∀ (K:Ex→St→Prop) (tm:List (Nat × V)) (l:Nat) (h:List (Option Obj)) (key:Nat) (caps:List V) (ex:Ex),rg4 K tm l h key caps (some ex)=K ex ⟨tm,h.set l (some (.lp 1 key caps))⟩) ∧
  (z3b 0=some .normal)∧(z3b 2=some .ret)∧(∀ (j:Nat),z3b (j + 3)=some (.exit j)) ∧
  (z55 .normal=0)∧(z55 .ret=2)∧(∀ (j:Nat),z55 (.exit j)=j + 3) ∧
  (∀ (k:Nat) (a c:List D) (y:V),zei (.d (.f k a c)) y=some (k,ofDs a++[y]++ofDs c)) ∧
  (∀ (k:Nat) (c:List V) (y:V),zei (.fn k [] c) y=some (k,[]++[y]++c)) ∧
  (∀ (K:Ex→St→Prop) (id:Nat) (tm:List (Nat × V)) (hp:List (Option Obj)),rdA id K .normal ⟨tm,hp⟩=rd4 K tm hp id (zbc hp id)) ∧
  (∀ (K:Ex→St→Prop) (id k:Nat) (c:List V) (tm:List (Nat × V)) (hp:List (Option Obj)),rd4 K tm hp id (some (.lp 0 k c))=K .normal ⟨tm,hp.set id (some (.lp 1 k c))⟩) ∧
  (∀ (m id:Nat) (r:V × List (Option Obj)) (ex:Ex) (tm:List (Nat × V)) (hp:List (Option Obj)),rdB m id r ex ⟨tm,hp⟩=rd5 m id ex hp r (zbc hp id)) ∧
  (∀ (m id:Nat) (r:V × List (Option Obj)) (ex:Ex) (hp:List (Option Obj)) (k:Nat) (c:List V),rd5 m id ex hp r (some (.lp 1 k c))=(zy1 m (hp.set id (some (.lp (z55 ex) k c))) (some [.d (.b (decide (ex = .normal)))])=some r)) ∧
  (∀ tm hp (t:Nat),zyd ⟨tm,hp⟩ (.raw t)=V.rawH (za1 tm t)) ∧
  (∀ (sz:Nat),V.rawH (.nil sz)=some (.nil sz))∧(∀ (x:D),V.rawH (.d x)=some (.d x))∧(∀ (id ver off len:Nat),V.rawH (.arr id ver off len)=some (.arr id ver off len))∧(∀ (id ver sz:Nat) (xs:List (List D)),V.rawH (.own id ver sz xs)=some (.d (.l sz xs))) ∧
  (V.rawAll []=some [])∧(∀ (x:V) (r:List V),V.rawAll (x :: r)=z4t (V.rawH x) (V.rawAll r)) ∧
  (∀ (t:Nat) (ts:List Nat) (v:V) (vs:List V),zpm (t :: ts) (v :: vs)=(t,v) :: zpm ts vs) ∧
  (zpm [] []=[]):=by
 refine ⟨?_, ?_, ?_, ?_, ?_, ?_, ?_, ?_, ?_, ?_, ?_, ?_, ?_, ?_, ?_, ?_, ?_, ?_, ?_,rfl,rfl, ?_,rfl,rfl, ?_, ?_, ?_, ?_, ?_, ?_, ?_, ?_, ?_, ?_, ?_, ?_,rfl, ?_, ?_,rfl⟩
 ·intros; rfl
 ·intros; rfl
 ·intros; rfl
 ·intros; rfl
 ·intros; rfl
 ·intros; simp [V.hand,V.toDs,V.toD,V.handAll]
 ·intro k id off r
  simp only [V.hand]
  have h1:V.toDs (.ptr id off :: r)=none:=by simp [V.toDs,V.toD]
  have h2:V.toDs []=some []:=rfl
  simp only [h1,h2]
  have h3:V.handAll []=some []:=rfl
  rw [h3]
  cases V.handAll (.ptr id off :: r) <;> rfl
 ·intros; simp [V.under,V.underAll]
 ·intros; simp [zc5,V.fine,V.fineAll]
 ·intros; simp [V.fine,V.fineAll]
 all_goals first | (intros; rfl) | (intro x r; simp only [V.rawAll]; cases V.rawH x <;> cases V.rawAll r <;> rfl)
open Go
def Zdt (k:IntKind):Option Int→Option D
 | some y=>some (.i k y)
 | none=>none
def Znh (neg:Bool):Option (List D)→Option (List D)→List CK→Option V
 | some x,some y,ks=>match zb8 ks x y with | some q=>some (.d (.b (if neg then !q else q))) | none=>none
 | _,_,_=>none
def Zni (neg:Bool):Option Bool→Option V
 | some q=>some (.d (.b (if neg then !q else q)))
 | none=>none
def Znj:Option Bool→Option Bool→Option Bool
 | some a,some b=>some (a && b)
 | _,_=>none
def Zlh (n:Nat):Option (List D)→Option (List D)
 | some kd=>if kd.length=n then some kd else none
 | none=>none
def lkA (ks:List CK)(ok:Bool)(z:V)(kvs:List (List D × V)):Option (List D)→Option V
 | some kd=>match zdb ks kd kvs with | some n=>some (got ok z kvs[n]?) | none=>none
 | none=>none
def lkB (ok:Bool)(z:V)(kvs:List (List D × V)):Option Nat→Option V
 | some n=>some (got ok z kvs[n]?)
 | none=>none
def lkO (ag:Bool)(ks:List CK)(ok:Bool)(z k:V):Option Obj→Option V
 | some (.map kvs)=>lkA ks ok z kvs (zpl ag ks.length k)
 | _=>none
def zsa (kvs:List (List D × V))(kd:List D)(v:V)(n:Nat):List (List D × V):=if n < kvs.length then kvs.set n (kd,v) else kvs++[(kd,v)]
def muB (hp:List (Option Obj))(id:Nat)(kvs:List (List D × V))(kd:List D)(v:V):Option Nat→Option (List (Option Obj))
 | some n=>some (hp.set id (some (.map (zsa kvs kd v n))))
 | none=>none
def muA (ks:List CK)(hp:List (Option Obj))(id:Nat)(kvs:List (List D × V))(v:V):Option (List D)→Option (List (Option Obj))
 | some kd=>muB hp id kvs kd v (zdb ks kd kvs)
 | none=>none
def muO (ag:Bool)(ks:List CK)(hp:List (Option Obj))(id:Nat)(k v:V):Option Obj→Option (List (Option Obj))
 | some (.map kvs)=>muA ks hp id kvs v (zpl ag ks.length k)
 | _=>none
def Zli (hp:List (Option Obj))(id:Nat)(kvs:List (List D × V)):Option Nat→Option (List (Option Obj))
 | some n=>some (hp.set id (some (.map (kvs.eraseIdx n))))
 | none=>none
def Ziz (ks:List CK)(hp:List (Option Obj))(id:Nat)(kvs:List (List D × V)):Option (List D)→Option (List (Option Obj))
 | some kd=>Zli hp id kvs (zdb ks kd kvs)
 | none=>none
def Zi0 (ag:Bool)(ks:List CK)(hp:List (Option Obj))(id:Nat)(k:V):Option Obj→Option (List (Option Obj))
 | some (.map kvs)=>Ziz ks hp id kvs (zpl ag ks.length k)
 | _=>none
def Znk:Option Obj→Option V
 | some (.map kvs)=>some (.d (.i .i64 kvs.length))
 | _=>none
section
variable {hp:List (Option Obj)}
theorem z9g (ag:Bool)(ks:List CK)(ok:Bool)(z:V)(id:Nat)(k:V):lkF ag ks ok z hp (.map id) k=lkO ag ks ok z k (zbc hp id):=by
 simp only [lkF,zcc,Qb,Qc]
 cases zbc hp id with
 | none=>rfl
 | some o =>
  cases o with
  | map kvs =>
   simp only [zoe,lkO]
   cases zpl ag ks.length k with
   | none=>rfl
   | some kd=>simp only [lkA]; cases zdb ks kd kvs <;> rfl
  | _=>rfl
theorem z9h (ag:Bool)(ks:List CK)(ok:Bool)(z:V)(k:V):lkF ag ks ok z hp (.d .nm) k=lkA ks ok z [] (zpl ag ks.length k):=by
 simp only [lkF,zcc,Qc,zoe]
 cases zpl ag ks.length k <;> rfl
theorem z9i (ag:Bool)(ks:List CK)(id:Nat)(k v:V):muF ag ks hp (.map id) k v=muO ag ks hp id k v (zbc hp id):=by
 simp only [muF,zcc,Qb,Qc]
 cases zbc hp id with
 | none=>rfl
 | some o =>
  cases o with
  | map kvs =>
   simp only [zj6,muO]
   cases zpl ag ks.length k with
   | none=>rfl
   | some kd=>simp only [muA]; cases zdb ks kd kvs <;> rfl
  | _=>rfl
theorem z40 (ag:Bool)(ks:List CK)(id:Nat)(k:V):Zay ag ks hp (.map id) k=Zi0 ag ks hp id k (zbc hp id):=by
 simp only [Zay,zcc,Qb,Qc]
 cases zbc hp id with
 | none=>rfl
 | some o =>
  cases o with
  | map kvs =>
   simp only [zf2,Zi0]
   cases zpl ag ks.length k with
   | none=>rfl
   | some kd=>simp only [Ziz]; cases zdb ks kd kvs <;> rfl
  | _=>rfl
end
theorem evK :
  (∀ (k:Nat) (a c:List V),V.fine (.fn k a c)=(V.fineAll a && V.fineAll c))∧(V.fineAll []=true)∧(∀ (x:V) (r:List V),V.fineAll (x :: r)=(V.fine x && V.fineAll r)) ∧
  (∀ (i o:Nat),V.fine (.ptr i o)=true)∧(∀ (i:Nat),V.fine (.map i)=true)∧(∀ (x:D),V.fine (.d x)=true)∧(∀ (n k:Nat) (a c:List V),V.under n (.fn k a c)=(V.underAll n a && V.underAll n c)) ∧
  (∀ C K b r j tm hp es (d p k:Nat) (f c:List A),go C K b (⟨some d,.mkf k f c false,none,p⟩ :: r) j tm hp es=go C K b r j ((d,.fn k (evL tm f) (evL tm c)) :: tm) hp (⟨[],false,b + j,0⟩ :: es)) ∧
  (∀ C K b r j tm hp es (d p k:Nat) (c:List A),go C K b (⟨some d,.mkf k [] c true,none,p⟩ :: r) j tm hp es=(zg9 (za5 (evL tm c))=true∧zxu C K b d k 0 r j tm hp es (evL tm c) (zrc (evL tm c) hp))) ∧
  (∀ C K b r j tm hp es (d k:Nat) (vs:List V) (c:List D) (os:List (Option Obj)),zxu C K b d k 0 r j tm hp es vs (some (c,os))=go C K b r j ((d,.d (.f k [] c)) :: tm) (zar hp (za5 vs) os) (⟨za5 vs,true,b + j,0⟩ :: es)) ∧
  (∀ (hp:List (Option Obj)),zrc [] hp=some ([],[])) ∧
  (∀ (hp:List (Option Obj)) (id off:Nat) (vs:List V),zrc (.ptr id off :: vs) hp=z65 id off vs hp (zbc hp id)) ∧
  (∀ (hp:List (Option Obj)) (x:D) (vs:List V),zrc (.d x :: vs) hp=Ziw (some x) (zrc vs hp)) ∧
  (∀ (hp:List (Option Obj)) (id off:Nat) (vs:List V) (cs:List V),z65 id off vs hp (some (.box cs))=Zdc off (.box cs) (V.toDs cs) (zrc vs hp)) ∧
  (∀ (off:Nat) (o:Obj) (ds c:List D) (os:List (Option Obj)),Zdc off o (some ds) (some (c,os))=some (.q ds off :: c,some (.cst ds) :: os)) ∧
  (∀ (x:D) (c:List D) (os:List (Option Obj)),Ziw (some x) (some (c,os))=some (x :: c,os)) ∧
  (za5 []=[])∧(∀ (id off:Nat) (r:List V),za5 (.ptr id off :: r)=id :: za5 r)∧(∀ (x:D) (r:List V),za5 (.d x :: r)=za5 r) ∧
  (zg9 []=true)∧(∀ (x:Nat) (r:List Nat),zg9 (x :: r)=(!r.contains x && zg9 r)) ∧
  (∀ C K b r j tm hp es (d p:Nat),go C K b (⟨some d,.mkm,none,p⟩ :: r) j tm hp es=go C K b r (j + 1) ((d,.map (b + j)) :: tm) (hp.set (b + j) (some (.map []))) (⟨[],false,b + j,1⟩ :: es)) ∧
  (∀ C K b r j tm hp es (d p:Nat) (ag:Bool) (ks:List CK) (ok:Bool) (z:V) (m k:A),go C K b (⟨some d,.lk ag ks ok z m k,none,p⟩ :: r) j tm hp es=goV C K b d r j tm hp es (zcc (evT tm m)) (lkF ag ks ok z hp (evT tm m) (evT tm k))) ∧
  (∀ C K b r j tm hp es (dst:Option Nat) (p:Nat) (ag:Bool) (ks:List CK) (m k v:A),go C K b (⟨dst,.mu ag ks m k v,none,p⟩ :: r) j tm hp es=goH C K b dst r j tm es (zcc (evT tm m)) (muF ag ks hp (evT tm m) (evT tm k) (evT tm v))) ∧
  (∀ C K b r j tm hp es (dst:Option Nat) (p:Nat) (ag:Bool) (ks:List CK) (m k:A),go C K b (⟨dst,.del ag ks m k,none,p⟩ :: r) j tm hp es=goH C K b dst r j tm es (zcc (evT tm m)) (Zay ag ks hp (evT tm m) (evT tm k))) ∧
  (∀ (id:Nat),zcc (.map id)=[id])∧(∀ (x:D),zcc (.d x)=[]) ∧
  (∀ (hp:List (Option Obj)) (ag:Bool) (ks:List CK) (ok:Bool) (z:V) (id:Nat) (k:V),lkF ag ks ok z hp (.map id) k=lkO ag ks ok z k (zbc hp id)) ∧
  (∀ (hp:List (Option Obj)) (ag:Bool) (ks:List CK) (ok:Bool) (z k:V),lkF ag ks ok z hp (.d .nm) k=lkA ks ok z [] (zpl ag ks.length k)) ∧
  (∀ (ag:Bool) (ks:List CK) (ok:Bool) (z k:V) (kvs:List (List D × V)),lkO ag ks ok z k (some (.map kvs))=lkA ks ok z kvs (zpl ag ks.length k)) ∧
  (∀ (ks:List CK) (ok:Bool) (z:V) (kvs:List (List D × V)) (kd:List D),lkA ks ok z kvs (some kd)=lkB ok z kvs (zdb ks kd kvs)) ∧
  (∀ (ok:Bool) (z:V) (kvs:List (List D × V)) (n:Nat),lkB ok z kvs (some n)=some (got ok z kvs[n]?)) ∧
  (∀ (z:V) (p:List D × V),got true z (some p) = .tup [p.2,.d (.b true)])∧(∀ (z:V) (p:List D × V),got false z (some p)=p.2) ∧
  (∀ (z:V),got true z none = .tup [z,.d (.b false)])∧(∀ (z:V),got false z none=z) ∧
  (∀ (hp:List (Option Obj)) (ag:Bool) (ks:List CK) (id:Nat) (k v:V),muF ag ks hp (.map id) k v=muO ag ks hp id k v (zbc hp id)) ∧
  (∀ (ag:Bool) (ks:List CK) (hp:List (Option Obj)) (id:Nat) (k v:V) (kvs:List (List D × V)),muO ag ks hp id k v (some (.map kvs))=muA ks hp id kvs v (zpl ag ks.length k)) ∧
  (∀ (ks:List CK) (hp:List (Option Obj)) (id:Nat) (kvs:List (List D × V)) (v:V) (kd:List D),muA ks hp id kvs v (some kd)=muB hp id kvs kd v (zdb ks kd kvs)) ∧
  (∀ (hp:List (Option Obj)) (id:Nat) (kvs:List (List D × V)) (kd:List D) (v:V) (n:Nat),muB hp id kvs kd v (some n)=some (hp.set id (some (.map (zsa kvs kd v n))))) ∧
  (∀ (hp:List (Option Obj)) (ag:Bool) (ks:List CK) (id:Nat) (k:V),Zay ag ks hp (.map id) k=Zi0 ag ks hp id k (zbc hp id)) ∧
  (∀ (ag:Bool) (ks:List CK) (hp:List (Option Obj)) (id:Nat) (k:V) (kvs:List (List D × V)),Zi0 ag ks hp id k (some (.map kvs))=Ziz ks hp id kvs (zpl ag ks.length k)) ∧
  (∀ (ks:List CK) (hp:List (Option Obj)) (id:Nat) (kvs:List (List D × V)) (kd:List D),Ziz ks hp id kvs (some kd)=Zli hp id kvs (zdb ks kd kvs)) ∧
  (∀ (hp:List (Option Obj)) (id:Nat) (kvs:List (List D × V)) (n:Nat),Zli hp id kvs (some n)=some (hp.set id (some (.map (kvs.eraseIdx n))))) ∧
  (∀ (n:Nat) (cs:List V),zpl true n (.agg cs)=Zlh n (V.toDs cs))∧(∀ (n:Nat) (x:D),zpl false n (.d x)=Zlh n (some [x])) ∧
  (∀ (n:Nat) (kd:List D),Zlh n (some kd)=if kd.length=n then some kd else none) ∧
  (∀ C K b r j tm hp es (d p:Nat) (x:A),go C K b (⟨some d,.len 2 x,none,p⟩ :: r) j tm hp es=goV C K b d r j tm hp es (zcc (evT tm x)) (Zix hp (evT tm x))) ∧
  (∀ (hp:List (Option Obj)) (id:Nat),Zix hp (.map id)=Znk (zbc hp id))∧(∀ (kvs:List (List D × V)),Znk (some (.map kvs))=some (.d (.i .i64 kvs.length))) ∧
  (∀ C K b r j tm hp es (d p:Nat) (neg:Bool) (x:A),go C K b (⟨some d,.nilm neg x,none,p⟩ :: r) j tm hp es=goV C K b d r j tm hp es [] (z0x neg (evT tm x))) ∧
  (∀ (neg:Bool) (id:Nat),z0x neg (.map id)=some (.d (.b (if neg then !false else false))))∧(∀ (neg:Bool),z0x neg (.d .nm)=some (.d (.b (if neg then !true else true)))) ∧
  (∀ C K b r j tm hp es (d p:Nat) (ks:List CK) (neg:Bool) (x y:A),go C K b (⟨some d,.eqa ks neg x y,none,p⟩ :: r) j tm hp es=goV C K b d r j tm hp es [] (Zdg ks neg (evT tm x) (evT tm y))) ∧
  (∀ (ks:List CK) (neg:Bool) (x y:List V),Zdg ks neg (.agg x) (.agg y)=Znh neg (V.toDs x) (V.toDs y) ks) ∧
  (∀ (neg:Bool) (x y:List D) (ks:List CK),Znh neg (some x) (some y) ks=Zni neg (zb8 ks x y)) ∧
  (∀ (neg q:Bool),Zni neg (some q)=some (.d (.b (if neg then !q else q)))) ∧
  (zb8 [] [] []=some true)∧(∀ (k:CK) (ks:List CK) (x y:D) (xs ys:List D),zb8 (k :: ks) (x :: xs) (y :: ys)=Znj (eqD k x y) (zb8 ks xs ys)) ∧
  (∀ (a b:Bool),Znj (some a) (some b)=some (a && b)) ∧
  (∀ (k:IntKind) (x y:Int),eqD .i (.i k x) (.i k y)=some (x == y))∧(∀ (x y:List UInt8),eqD .s (.s x) (.s y)=some (x == y))∧(∀ (x y:Bool),eqD .b (.b x) (.b y)=some (x == y)) ∧
  (∀ C K b r j tm hp es (d p:Nat) (ag:Bool) (len sz:Nat) (x y:A),go C K b (⟨some d,.ixa ag len sz x y,none,p⟩ :: r) j tm hp es=goV C K b d r j tm hp es [] (Ziy ag len sz (evT tm x) (evT tm y))) ∧
  (∀ (ag:Bool) (len sz:Nat) (cs:List V) (k:IntKind) (i:Int),Ziy ag len sz (.agg cs) (.d (.i k i))=if 0 ≤ i∧i < len then asO ag sz (zbn cs (i.toNat * sz) sz) else none) ∧
  (∀ C K b r j tm hp es (d p:Nat) (len sz:Nat) (x y:A),go C K b (⟨some d,.iaa len sz x y,none,p⟩ :: r) j tm hp es=goV C K b d r j tm hp es [] (Zaz len sz (evT tm x) (evT tm y))) ∧
  (∀ (len sz id o:Nat) (k:IntKind) (i:Int),Zaz len sz (.ptr id o) (.d (.i k i))=if 0 ≤ i∧i < len then some (.ptr id (o + i.toNat * sz)) else none) ∧
  (∀ (len sz o:Nat) (ds:List D) (k:IntKind) (i:Int),Zaz len sz (.d (.q ds o)) (.d (.i k i))=if 0 ≤ i∧i < len then some (.d (.q ds (o + i.toNat * sz))) else none) ∧
  (∀ C K b r j tm hp es (d p:Nat) (mx:Bool) (xs:List A),go C K b (⟨some d,.mm mx xs,none,p⟩ :: r) j tm hp es=goV C K b d r j tm hp es [] (oD (zh8 mx (evL tm xs)))) ∧
  (∀ (mx:Bool) (k:IntKind) (x:Int) (r:List V),zh8 mx (.d (.i k x) :: r)=Zdt k (ziy mx k x r)) ∧
  (∀ (k:IntKind) (x:Int),Zdt k (some x)=some (.i k x))∧(∀ (mx:Bool) (k:IntKind) (x:Int),ziy mx k x []=some x) ∧
  (∀ (k:IntKind) (x y:Int) (r:List V),ziy true k x (.d (.i k y) :: r)=ziy true k (if y > x then y else x) r) ∧
  (∀ (k:IntKind) (x y:Int) (r:List V),ziy false k x (.d (.i k y) :: r)=ziy false k (if y < x then y else x) r) ∧
  (∀ C K b r j tm hp es (d p sz n:Nat) (z:List D) (ps:List (Nat × A)),go C K b (⟨some d,.bsa sz n z ps,none,p⟩ :: r) j tm hp es=goR C K b d sz n r j tm hp es (ziz sz (List.replicate n (ofDs z)) (evI tm ps))) ∧
  (∀ C K b r j tm hp es (d sz n:Nat) (xs:List (List V)),goR C K b d sz n r j tm hp es (some xs)=go C K b r (j + 1) ((d,.arr (b + j) 0 0 n) :: tm) (hp.set (b + j) (some (.arr 0 sz xs))) (⟨[],false,b + j,1⟩ :: es)) ∧
  (∀ (sz:Nat) (xs:List (List V)),ziz sz xs []=some xs) ∧
  (∀ (sz:Nat) (xs:List (List V)) (i:Nat) (x:V) (r:List (Nat × V)),ziz sz xs ((i,x) :: r)=zvy sz xs i r x.cel) ∧
  (∀ (sz:Nat) (xs:List (List V)) (i:Nat) (r:List (Nat × V)) (c:List V),zvy sz xs i r (some c)=if c.length=sz∧i < xs.length then ziz sz (xs.set i c) r else none) ∧
  (∀ C K b r j tm hp es (d p sz bytes:Nat) (x y:A),go C K b (⟨some d,.apa sz bytes x y,none,p⟩ :: r) j tm hp es=z9a C K b d sz bytes r j tm hp es (evT tm x) (evT tm y) (z89 sz hp (evT tm y))) ∧
  (∀ C K b r j tm hp es (dst:Option Nat) (p key:Nat) (as:List A),go C K b (⟨dst,.lend key as,none,p⟩ :: r) j tm hp es=zvz C K b dst key r j tm hp es (V.handAll (evL tm as))) ∧
  (∀ C K b r j tm hp es (dst:Option Nat) (p key res:Nat) (as:List A),go C K b (⟨dst,.callr key as res,none,p⟩ :: r) j tm hp es=zjm C K b dst res r j tm hp es (zrb C (zbc hp) key res (b + j) (V.rawAll (evL tm as)))) ∧
  (∀ (E:Nat→Option Fn) (Q:Ex→St→Prop) (ann:Ann) (c:CCode) (s:St),WX E (.loop ann c) s Q=LX E c ann (enter ann s).heap.length (enter ann s) Q) ∧
  (∀ (E:Nat→Option Fn) (Q:Ex→St→Prop) (own:List (Nat × Nat)) (f:A) (key res:Nat) (ks:List Nat) (s:St),WX E (.range own f key ks res) s Q=rg0 (lcall E) Q f key res ks (zlh own s)):=by
 refine ⟨by intros; rw [V.fine],by rw [V.fineAll],by intros; rw [V.fineAll],by intros; rw [V.fine] <;> simp,by intros; rw [V.fine] <;> simp,by intros; rw [V.fine] <;> simp,by intros; rw [V.under], ?_, ?_, ?_, ?_, ?_, ?_, ?_, ?_, ?_,rfl, ?_, ?_,rfl, ?_, ?_, ?_, ?_, ?_, ?_, ?_, ?_, ?_, ?_, ?_, ?_, ?_, ?_, ?_, ?_, ?_, ?_, ?_, ?_, ?_, ?_, ?_, ?_, ?_, ?_, ?_, ?_, ?_, ?_, ?_, ?_, ?_, ?_, ?_, ?_, ?_,rfl, ?_, ?_, ?_, ?_, ?_, ?_, ?_, ?_, ?_, ?_, ?_, ?_, ?_, ?_, ?_, ?_, ?_, ?_, ?_, ?_, ?_, ?_, ?_, ?_, ?_, ?_⟩
 all_goals first
  | (intros; rfl)
  | (intros; exact Zdb ..)
  | (intros; exact z85 ..)
  | (intros; exact z4u ..)
  | (intros; exact Zdd ..)
  | (intros; exact Zde ..)
  | (intros; exact Zle ..)
  | (intros; exact Zlf ..)
  | (intros; exact Zdf ..)
  | (intros; exact z9g ..)
  | (intros; exact z9h ..)
  | (intros; exact z9i ..)
  | (intros; exact z40 ..)
  | (intros; exact z86 ..)
  | (intros; exact z87 ..)
  | (intros; exact Zdh ..)
  | (intros; exact Zdi ..)
  | (intros; exact Zdj ..)
  | (intros; exact Zlg ..)
  | (intros; exact Zdk ..)
  | (intros; exact zxv ..)
  | (intros; exact Zdn ..)
  | (intros; exact z9b ..)
  | (intros; exact z4v ..)
  | (intros; exact z4z ..)
  | skip
 ·intro ks neg x y
  simp only [Zdg]
  cases V.toDs x with
  | none=>rfl
  | some a=>cases V.toDs y <;> rfl
 ·intro k x y; simp only [eqD,if_true]
 ·intro k x y r; simp only [ziy,if_true]
 ·intro k x y r; simp only [ziy,if_true]; rfl
open Go
def zdu (l:List UInt8):List (List D):=l.map fun c=>[.i .u8 c.toNat]
theorem zh4 (l:List UInt8):(zdu l).length=l.length:=by simp [zdu]
theorem zue (l:List UInt8)(i:Nat):(zdu l)[i]?=(l[i]?).map fun c=>[.i .u8 c.toNat]:=by simp [zdu]
theorem z66 {n:Int}(h:(Lit.int .u8 n).wf=true):∃ c:UInt8,n=c.toNat:=by
 simp only [Lit.wf,Qi,IntKind.min,IntKind.max,IntKind.signed,IntKind.bits] at h
 refine ⟨UInt8.ofNat n.toNat, ?_⟩
 rw [UInt8.toNat_ofNat']
 simp at h
 omega
theorem z9j {n:Int}(h:(Lit.int .i64 n).wf=true) : -9223372036854775808 ≤ n∧n ≤ 9223372036854775807:=by
 simp only [Lit.wf,Qi,Qh,IntKind.min,IntKind.max,IntKind.signed,IntKind.bits] at h
 simp at h
 omega
section
variable {P:Program}
theorem z41 {t e:TypeId}(hu:P.underlying t=some (.slice e))(he:P.underlying e=some (.int .u8))(hc:P.cellsOf e=1):∀ {f:Nat} {ds:List D},tyD P f t ds→∃ l,ds=[.l 1 (zdu l)]
 | 0,ds,h=>h.elim
 | f + 1,ds,h=>by
  simp only [tyD,hu,hc] at h
  obtain ⟨xs,rfl,_,h3⟩:=h
  have:∀ (xs:List (List D)),(∀ r ∈ xs,r.length=1∧tyD P f e r)→∃ l,xs=zdu l:=by
   intro xs
   induction xs with
   | nil=>intro _; exact ⟨[],rfl⟩
   | cons r rs ih =>
    intro h
    obtain ⟨l,rfl⟩:=ih (fun r hr=>h r (by simp [hr]))
    obtain ⟨_,h1⟩:=h r (by simp)
    cases f with
    | zero=>exact h1.elim
    | succ f =>
     simp only [tyD,he] at h1
     obtain ⟨n,rfl,hw⟩:=h1
     obtain ⟨c,rfl⟩:=z66 hw
     exact ⟨c :: l,rfl⟩
  obtain ⟨l,rfl⟩:=this xs h3
  exact ⟨l,rfl⟩
theorem Zlj {t:TypeId}(hu:P.underlying t=some (.int .u8)):∀ {f:Nat} {ds:List D},tyD P f t ds→∃ c:UInt8,ds=[.i .u8 c.toNat]
 | 0,ds,h=>h.elim
 | f + 1,ds,h=>by
  simp only [tyD,hu] at h
  obtain ⟨n,rfl,hw⟩:=h
  obtain ⟨c,rfl⟩:=z66 hw
  exact ⟨c,rfl⟩
theorem Zdu {t:TypeId}(hu:P.underlying t=some (.int .i64)):∀ {f:Nat} {ds:List D},tyD P f t ds→∃ n:Int,ds=[.i .i64 n]∧-9223372036854775808 ≤ n∧n ≤ 9223372036854775807
 | 0,ds,h=>h.elim
 | f + 1,ds,h=>by
  simp only [tyD,hu] at h
  obtain ⟨n,rfl,hw⟩:=h
  exact ⟨n,rfl,z9j hw⟩
end
end Ab
