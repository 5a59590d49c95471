/-
 A region's operations, one by one: equations.
-/
import Derived.Test.YtblhbdagpefloaaGreatDoorPack3
set_option linter.unusedSimpArgs false
set_option linter.unusedVariables false
set_option linter.unusedSectionVars false
set_option linter.unnecessarySimpa false
namespace Ab
open Go
def evT (tm:List (Nat × V)):A→V
 | .t i=>zba tm i
 | .k v=>v
def zbk (hp:List (Option Obj))(i:Nat):Option Obj:=(hp[i]?).join
def zyq (d:Option Nat)(v:V)(tm:List (Nat × V)):List (Nat × V):=match d with | some d=>(d,v) :: tm | none=>tm
theorem zmx (tm:List (Nat × V))(hp:List (Option Obj)):(⟨tm,hp⟩:St).ev=evT tm:=by funext a; cases a <;> rfl
def gd (want:Bool):V→Option Bool
 | .d (.b x)=>some (x == want)
 | .tup []=>some false
 | _=>none
def go (C:zbg)(K:St→List Foot→Prop)(b:Nat)(r:List CO)(j:Nat)(tm:List (Nat × V))(hp:List (Option Obj))(es:List Foot):Prop:=rgo C b r j ⟨tm,hp⟩ es K
section
variable {C:zbg} {K:St→List Foot→Prop} {b:Nat} {r:List CO} {j:Nat} {tm:List (Nat × V)} {hp:List (Option Obj)} {es:List Foot} {d p:Nat}
def zmy (C:zbg)(K:St→List Foot→Prop)(b:Nat)(dst:Option Nat)(op:Cop)(r:List CO)(j:Nat)(tm:List (Nat × V))(hp:List (Option Obj))(es:List Foot)(ids:List Nat):Option Res→Prop
 | none=>False
 | some e=>go C K b r (j + op.nmk) (zyq dst e.v tm) (za6 (if op.wr then za6 hp ids e.os else hp) (List.range' (b + j) e.nws.length) e.nws) (⟨ids,op.wr,b + j,e.nws.length⟩ :: es)
theorem zbh (dst:Option Nat)(op:Cop)(hc:op.isCall=false):go C K b (⟨dst,op,none,p⟩ :: r) j tm hp es =
  zmy C K b dst op r j tm hp es (op.ids (op.args.map (evT tm))) (act op (op.args.map (evT tm)) ((op.ids (op.args.map (evT tm))).map (zbk hp)) (b + j)):=by
 have ho:(⟨tm,hp⟩:St).obj=zbk hp:=rfl
 simp only [go,rgo,zhl,wanted,zmx,hc,Qm,if_false,ho]
 cases act op (op.args.map (evT tm)) ((op.ids (op.args.map (evT tm))).map (zbk hp)) (b + j) with
 | none=>rfl
 | some e=>cases dst <;> rfl
def goG (C:zbg)(K:St→List Foot→Prop)(b:Nat)(dst:Option Nat)(op:Cop)(p:Nat)(r:List CO)(j:Nat)(tm:List (Nat × V))(hp:List (Option Obj))(es:List Foot):Option Bool→Prop
 | none=>False
 | some false=>go C K b r (j + op.nmk) (zyq dst .undef tm) hp (⟨[],false,b + j,0⟩ :: es)
 | some true=>go C K b (⟨dst,op,none,p⟩ :: r) j tm hp es
theorem z18 (dst:Option Nat)(op:Cop)(t:Nat)(want:Bool):go C K b (⟨dst,op,some (t,want),p⟩ :: r) j tm hp es=goG C K b dst op p r j tm hp es (gd want (zba tm t)):=by
 have hg:wanted ⟨tm,hp⟩ (some (t,want))=gd want (zba tm t):=rfl
 have h1:zhl C ⟨tm,hp⟩ ⟨dst,op,some (t,want),p⟩ (b + j)=match gd want (zba tm t) with
   | none=>none
   | some false=>some ⟨dst,.undef,[],false,[],b + j,[]⟩
   | some true=>zhl C ⟨tm,hp⟩ ⟨dst,op,none,p⟩ (b + j):=by
  rw [← hg]
  unfold zhl
  cases wanted ⟨tm,hp⟩ (some (t,want)) with
  | none=>rfl
  | some x=>cases x <;> rfl
 rw [go,rgo,h1]
 cases gd want (zba tm t) with
 | none=>rfl
 | some x =>
  cases x with
  | false=>cases dst <;> rfl
  | true=>rfl
def bk (L:List Nat)(fresh i:Nat):Nat:=if i < L.length then L.getD i 0 else fresh + (i - L.length)
def shf (L:List Nat)(h:List (Option Obj))(i:Nat):Nat:=if i < L.length then zoq (h.getD i none) else 0
def Zh3 (L:List Nat)(h:List (Option Obj))(res fresh:Nat)(r:V):Option (List (Option Obj))→Option (V × List Nat × List (Option Obj) × List (Option Obj))
 | none=>none
 | some os=>if L.length ≤ os.length∧os.length ≤ L.length + res then some (V.ren (bk L fresh) (shf L h) r,L,os.take L.length,os.drop L.length) else none
def Ziw (L:List Nat)(h:List (Option Obj))(res fresh:Nat):Option (V × List (Option Obj))→Option (V × List Nat × List (Option Obj) × List (Option Obj))
 | none=>none
 | some (r,h')=>Zh3 L h res fresh r (zbp (bk L fresh) (shf L h) 0 h')
def Zh4 (C:zbg)(key:Nat)(hs:List V)(L:List Nat)(res fresh:Nat):Option (List (Option Obj))→Option (V × List Nat × List (Option Obj) × List (Option Obj))
 | none=>none
 | some h=>Ziw L h res fresh (C key (V.renAll (za4 L) zbs hs) h)
def Zh5 (C:zbg)(obj:Nat→Option Obj)(key:Nat)(hs:List V)(res fresh:Nat):Option (List Nat)→Option (V × List Nat × List (Option Obj) × List (Option Obj))
 | none=>none
 | some L=>Zh4 C key hs L res fresh (zbp (za4 L) zbs 0 (L.map obj))
def zrv (C:zbg)(obj:Nat→Option Obj)(key:Nat)(res fresh:Nat):Option (List V)→Option (V × List Nat × List (Option Obj) × List (Option Obj))
 | none=>none
 | some hs=>Zh5 C obj key hs res fresh (zb5 obj far (V.refsAll hs) [])
theorem zhm (C:zbg)(md:Md)(obj:Nat→Option Obj)(key:Nat)(vs:List V)(res fresh:Nat):zbq C md obj key vs res fresh=zrv C obj key res fresh (md.hands vs):=by
 unfold zbq
 cases md.hands vs with
 | none=>rfl
 | some hs =>
  simp only [zrv]
  cases zb5 obj far (V.refsAll hs) [] with
  | none=>rfl
  | some L =>
   simp only [Zh5]
   cases zbp (za4 L) zbs 0 (L.map obj) with
   | none=>rfl
   | some h =>
    simp only [Zh4]
    cases C key (V.renAll (za4 L) zbs hs) h with
    | none=>rfl
    | some x =>
     obtain ⟨r,h'⟩:=x
     show (match zbp (bk L fresh) (shf L h) 0 h' with | none=>none | some os=>_)=Zh3 L h res fresh r (zbp (bk L fresh) (shf L h) 0 h')
     cases zbp (bk L fresh) (shf L h) 0 h' <;> rfl
theorem zo0 (fz:Bool)(vs:List V):(zr6 fz).hands vs=V.handAll vs:=by cases fz <;> rfl
def zyr (m:Nat)(r:V)(h:List (Option Obj)):List Nat→Option (V × List (Option Obj))
 | []=>some (r,h)
 | _ :: _=>zde m r h
theorem zk0 (m:Nat)(r:V)(h:List (Option Obj)):zde m r h=zyr m r h (zd1 m r):=by
 cases hx:zd1 m r with
 | nil=>unfold zde; rw [hx]; rfl
 | cons a l=>rfl
def z68 (m:Nat):Option (V × List (Option Obj))→Option (V × List (Option Obj))
 | none=>none
 | some (r,h)=>zde m r h
theorem z19 (C:zbg)(key:Nat)(as:List V)(h:List (Option Obj)):zbw (zr6 true) C key as h=z68 h.length (C key as h):=by
 unfold zbw
 simp only [zr6]
 cases C key as h with
 | none=>rfl
 | some x=>obtain ⟨r,h'⟩:=x; rfl
def zlq (C:zbg)(K:St→List Foot→Prop)(b:Nat)(dst:Option Nat)(n:Nat)(r:List CO)(j:Nat)(tm:List (Nat × V))(hp:List (Option Obj))(es:List Foot):Option (V × List Nat × List (Option Obj) × List (Option Obj))→Prop
 | none=>False
 | some (v,is,os,ns)=>go C K b r (j + n) (zyq dst v tm) (za6 (za6 hp is os) (List.range' (b + j) ns.length) ns) (⟨is,true,b + j,ns.length⟩ :: es)
theorem z69 (dst:Option Nat)(key:Nat)(as:List A)(res:Nat)(fz:Bool):go C K b (⟨dst,.call key as res fz,none,p⟩ :: r) j tm hp es =
  zlq C K b dst res r j tm hp es (zrv (zbw (zr6 fz) C) (zbk hp) key res (b + j) (V.handAll (as.map (evT tm)))):=by
 have ho:(⟨tm,hp⟩:St).obj=zbk hp:=rfl
 simp only [go,rgo,zhl,wanted,zmx,Cop.isCall,if_true,callee,Cop.args,ho,zhm,zo0]
 cases zrv (zbw (zr6 fz) C) (zbk hp) key res (b + j) (V.handAll (as.map (evT tm))) with
 | none=>rfl
 | some x=>obtain ⟨v,is,os,ns⟩:=x; cases dst <;> rfl
def zi2:V→List V→Option (Nat × List V)
 | .d (.f key first cap),as=>some (key,ofDs first++as++ofDs cap)
 | .fn key [.map id] [],as=>some (key,.fn key [.map id] [] :: as)
 | .fn key first cap,as=>some (key,first++as++cap)
 | _,_=>none
def zqc (C:zbg)(K:St→List Foot→Prop)(b:Nat)(dst:Option Nat)(res:Nat)(fz:Bool)(r:List CO)(j:Nat)(tm:List (Nat × V))(hp:List (Option Obj))(es:List Foot):Option (Nat × List V)→Prop
 | none=>False
 | some (key,as)=>zlq C K b dst res r j tm hp es (zrv (zbw (zr6 fz) C) (zbk hp) key res (b + j) (V.handAll as))
theorem z2a (dst:Option Nat)(f:A)(as:List A)(res:Nat)(fz:Bool):go C K b (⟨dst,.callv f as res fz,none,p⟩ :: r) j tm hp es =
  zqc C K b dst res fz r j tm hp es (zi2 (evT tm f) (as.map (evT tm))):=by
 have ho:(⟨tm,hp⟩:St).obj=zbk hp:=rfl
 have h1:callee (.callv f as res fz) ((Cop.args (.callv f as res fz)).map (evT tm))=match zi2 (evT tm f) (as.map (evT tm)) with | some (k,as)=>some (k,as,res,zr6 fz) | none=>none:=by
  simp only [Cop.args,Qb]
  generalize evT tm f=fv
  cases fv with
  | d x=>cases x <;> rfl
  | fn k a c =>
   rcases a with _ | ⟨x,_ | ⟨y,a⟩⟩
   ·rfl
   ·cases x with
    | map id=>cases c <;> rfl
    | _=>rfl
   ·cases x <;> rfl
  | _=>rfl
 simp only [go,rgo,zhl,wanted,zmx,Cop.isCall,if_true,h1,ho]
 cases zi2 (evT tm f) (as.map (evT tm)) with
 | none=>rfl
 | some x =>
  obtain ⟨key,vs⟩:=x
  simp only [zqc,zhm,zo0]
  cases zrv (zbw (zr6 fz) C) (zbk hp) key res (b + j) (V.handAll vs) with
  | none=>rfl
  | some x=>obtain ⟨v,is,os,ns⟩:=x; cases dst <;> rfl
theorem Zix (x:A):go C K b (⟨some d,.mv x,none,p⟩ :: r) j tm hp es=go C K b r j ((d,evT tm x) :: tm) hp (⟨[],false,b + j,0⟩ :: es):=by
 rw [zbh _ _ rfl]; rfl
def goV (C:zbg)(K:St→List Foot→Prop)(b d:Nat)(r:List CO)(j:Nat)(tm:List (Nat × V))(hp:List (Option Obj))(es:List Foot)(ids:List Nat):Option V→Prop
 | none=>False
 | some v=>go C K b r j ((d,v) :: tm) hp (⟨ids,false,b + j,0⟩ :: es)
def oD:Option D→Option V
 | some x=>some (.d x)
 | none=>none
theorem Zea (op:BinOp)(x y:A):go C K b (⟨some d,.bin op x y,none,p⟩ :: r) j tm hp es=goV C K b d r j tm hp es [] (oD (binOp op (evT tm x) (evT tm y))):=by
 rw [zbh _ _ rfl]
 simp only [Cop.args,Qb,Qc,Cop.ids,act]
 cases binOp op (evT tm x) (evT tm y) <;> rfl
theorem Ziy (op:UnOp)(x:A):go C K b (⟨some d,.un op x,none,p⟩ :: r) j tm hp es=goV C K b d r j tm hp es [] (oD (unOp op (evT tm x))):=by
 rw [zbh _ _ rfl]
 simp only [Cop.args,Qb,Qc,Cop.ids,act]
 cases unOp op (evT tm x) <;> rfl
def z7a:V→V→V→Option V
 | .d (.b c),x,y=>some (if c then x else y)
 | _,_,_=>none
theorem z7b (x y z:A):go C K b (⟨some d,.pick x y z,none,p⟩ :: r) j tm hp es=goV C K b d r j tm hp es [] (z7a (evT tm x) (evT tm y) (evT tm z)):=by
 rw [zbh _ _ rfl]
 simp only [Cop.args,Qb,Qc,Cop.ids]
 generalize evT tm x=v
 cases v with
 | d x=>cases x <;> rfl
 | _=>rfl
def faV (o:Nat):V→Option V
 | .ptr id q=>some (.ptr id (q + o))
 | .pm id ver idx q=>some (.pm id ver idx (q + o))
 | .d (.q ds q)=>some (.d (.q ds (q + o)))
 | _=>none
theorem Ziz (o:Nat)(x:A):go C K b (⟨some d,.fa o x,none,p⟩ :: r) j tm hp es=goV C K b d r j tm hp es [] (faV o (evT tm x)):=by
 rw [zbh _ _ rfl]
 simp only [Cop.args,Qb,Qc,Cop.ids]
 generalize evT tm x=v
 cases v with
 | d x=>cases x <;> rfl
 | _=>rfl
def asO (ag:Bool)(n:Nat):Option (List V)→Option V
 | some c=>zio ag n c
 | none=>none
def flV (ag:Bool)(o n:Nat):V→Option V
 | .agg cs=>asO ag n (zby cs o n)
 | _=>none
theorem Zi0 (ag:Bool)(o n:Nat)(x:A):go C K b (⟨some d,.fl ag o n x,none,p⟩ :: r) j tm hp es=goV C K b d r j tm hp es [] (flV ag o n (evT tm x)):=by
 rw [zbh _ _ rfl]
 simp only [Cop.args,Qb,Qc,Cop.ids,act]
 generalize evT tm x=v
 cases v with
 | agg cs =>
  simp only [flV]
  cases zby cs o n with
  | none=>rfl
  | some c=>simp only [asO]; cases zio ag n c <;> rfl
 | _=>rfl
def zty:V→Option V
 | .ptr id off=>some (.ptr id off)
 | .pm id ver idx off=>some (.pm id ver idx off)
 | .d (.q ds off)=>some (.d (.q ds off))
 | .d (.f k a c)=>some (.d (.f k a c))
 | .fn k a c=>some (.fn k a c)
 | _=>none
theorem z7c (x:A):go C K b (⟨some d,.nilc x,none,p⟩ :: r) j tm hp es=goV C K b d r j tm hp es [] (zty (evT tm x)):=by
 rw [zbh _ _ rfl]
 simp only [Cop.args,Qb,Qc,Cop.ids]
 generalize evT tm x=v
 cases v with
 | d x=>cases x <;> rfl
 | _=>rfl
def z7d (k:IntKind):V→Option V
 | .d (.i _ n)=>some (.d (.i k (k.wrap n)))
 | _=>none
theorem z7e (k:IntKind)(x:A):go C K b (⟨some d,.conv k x,none,p⟩ :: r) j tm hp es=goV C K b d r j tm hp es [] (z7d k (evT tm x)):=by
 rw [zbh _ _ rfl]
 simp only [Cop.args,Qb,Qc,Cop.ids]
 generalize evT tm x=v
 cases v with
 | d x=>cases x <;> rfl
 | _=>rfl
def Zh6 (i:Nat):V→Option V
 | .tup ws=>ws[i]?
 | _=>none
theorem Zeb (x:A)(i:Nat):go C K b (⟨some d,.ext x i,none,p⟩ :: r) j tm hp es=goV C K b d r j tm hp es [] (Zh6 i (evT tm x)):=by
 rw [zbh _ _ rfl]
 simp only [Cop.args,Qb,Qc,Cop.ids,act]
 generalize evT tm x=v
 cases v with
 | tup ws=>simp only [Zh6]; cases ws[i]? <;> rfl
 | _=>rfl
def ze4:V→List Nat
 | .ptr id _=>[id]
 | .pm id _ _ _=>[id]
 | _=>[]
def ldO (ag:Bool)(n off:Nat):Option Obj→Option V
 | some (.box cs)=>asO ag n (zby cs off n)
 | some (.cst ds)=>asO ag n (zby (ofDs ds) off n)
 | _=>none
def ldR (ag:Bool)(n off:Nat):Option (List V)→Option V
 | some row=>asO ag n (zby row off n)
 | none=>none
def ldA (ag:Bool)(n ver idx off:Nat):Option Obj→Option V
 | some (.arr ver' _ xs)=>if ver=ver' then ldR ag n off xs[idx]? else none
 | _=>none
def ldT (ag:Bool)(n:Nat)(hp:List (Option Obj)):V→Option V
 | .ptr id off=>ldO ag n off (zbk hp id)
 | .d (.q ds off)=>asO ag n (zby (ofDs ds) off n)
 | .pm id ver idx off=>ldA ag n ver idx off (zbk hp id)
 | _=>none
theorem zo1 (ds:List D)(off n:Nat):zby (ofDs ds) off n=(match zqd ds off n with | some c=>some (ofDs c) | none=>none):=by
 unfold zby zqd ofDs
 rw [Qf]
 split
 ·simp only [List.map_take,List.map_drop]
 ·rfl
theorem Zi1 (ag:Bool)(n:Nat)(x:A):go C K b (⟨some d,.ld ag n x,none,p⟩ :: r) j tm hp es=goV C K b d r j tm hp es (ze4 (evT tm x)) (ldT ag n hp (evT tm x)):=by
 rw [zbh _ _ rfl]
 simp only [Cop.args,Qb,Qc,act]
 have h1:Cop.ids (.ld ag n x) [evT tm x]=ze4 (evT tm x):=by cases evT tm x <;> rfl
 have h2:ldT ag n hp (evT tm x)=zgw ag n [evT tm x] ((ze4 (evT tm x)).map (zbk hp)):=by
  cases evT tm x with
  | ptr id off =>
   simp only [ldT,ze4,Qb,Qc]
   cases zbk hp id with
   | none=>rfl
   | some o =>
    cases o with
    | box cs=>simp only [ldO,zgw]; cases zby cs off n <;> rfl
    | cst ds =>
     simp only [ldO,zgw,zo1]
     cases zqd ds off n <;> rfl
    | _=>rfl
  | pm id ver idx off =>
   simp only [ldT,ze4,Qb,Qc]
   cases zbk hp id with
   | none=>rfl
   | some o =>
    cases o with
    | arr ver' sz xs =>
     simp only [ldA,zgw]
     split
     ·cases xs[idx]? with
      | none=>rfl
      | some row=>simp only [ldR]; cases zby row off n <;> rfl
     ·rfl
    | _=>rfl
  | d x =>
   cases x with
   | q ds off =>
    simp only [ldT,ze4,Qc,zgw,zo1]
    cases zqd ds off n <;> rfl
   | _=>rfl
  | _=>rfl
 rw [h1,h2]
 cases zgw ag n [evT tm x] ((ze4 (evT tm x)).map (zbk hp)) <;> rfl
def stO (n id off:Nat)(hp:List (Option Obj))(c:Option (List V)):Option Obj→Option (List (Option Obj))
 | some (.box cs)=>match c with
  | some c=>if c.length=n then match over cs off c with | some cs'=>some (hp.set id (some (.box cs'))) | none=>none else none
  | none=>none
 | _=>none
def stA (n id ver idx off:Nat)(hp:List (Option Obj))(c:Option (List V)):Option Obj→Option (List (Option Obj))
 | some (.arr ver' sz xs)=>if ver=ver' then match xs[idx]?,c with
   | some row,some c=>if c.length=n then match over row off c with | some row'=>some (hp.set id (some (.arr ver' sz (xs.set idx row')))) | none=>none else none
   | _,_=>none
  else none
 | _=>none
def stT (n:Nat)(hp:List (Option Obj)):V→V→Option (List (Option Obj))
 | .ptr id off,v=>stO n id off hp v.cel (zbk hp id)
 | .pm id ver idx off,v=>stA n id ver idx off hp v.cel (zbk hp id)
 | _,_=>none
def goH (C:zbg)(K:St→List Foot→Prop)(b:Nat)(dst:Option Nat)(r:List CO)(j:Nat)(tm:List (Nat × V))(es:List Foot)(ids:List Nat):Option (List (Option Obj))→Prop
 | none=>False
 | some hp=>go C K b r j (zyq dst .undef tm) hp (⟨ids,true,b + j,0⟩ :: es)
theorem Zi2 (dst:Option Nat)(n:Nat)(x y:A):go C K b (⟨dst,.st n x y,none,p⟩ :: r) j tm hp es=goH C K b dst r j tm es (ze4 (evT tm x)) (stT n hp (evT tm x) (evT tm y)):=by
 rw [zbh _ _ rfl]
 simp only [Cop.args,Qb,Qc,act]
 have h1:∀ v,Cop.ids (.st n x y) [evT tm x,v]=ze4 (evT tm x):=fun v=>by cases evT tm x <;> rfl
 rw [h1]
 generalize evT tm y=v
 cases evT tm x with
 | ptr id off =>
  simp only [stT,ze4,Qb,Qc]
  cases zbk hp id with
  | none=>rfl
  | some o =>
   cases o with
   | box cs =>
    simp only [stO,zho]
    cases v.cel with
    | none=>rfl
    | some c =>
     by_cases hc:c.length=n
     ·simp only [hc,if_true]; cases over cs off c <;> rfl
     ·simp only [hc,if_false]; rfl
   | _=>rfl
 | pm id ver idx off =>
  simp only [stT,ze4,Qb,Qc]
  cases zbk hp id with
  | none=>rfl
  | some o =>
   cases o with
   | arr ver' sz xs =>
    simp only [stA,zho]
    by_cases hv:ver=ver'
    ·simp only [hv,if_true]
     cases xs[idx]? with
     | none=>rfl
     | some row =>
      cases v.cel with
      | none=>rfl
      | some c =>
       by_cases hc:c.length=n
       ·simp only [hc,if_true]; cases over row off c <;> rfl
       ·simp only [hc,if_false]; rfl
    ·simp only [hv,if_false]; rfl
   | _=>rfl
 | _=>rfl
def zb8:V→List Nat
 | .arr id _ _ _=>[id]
 | _=>[]
def Zec:Option (List D)→Option V
 | some r=>some (.d (.q r 0))
 | none=>none
def iaO (sz id ver off len:Nat)(i:Int):Option Obj→Option V
 | some (.arr ver' sz' _)=>if ver=ver'∧sz'=sz∧0 ≤ i∧i < len then some (.pm id ver (off + i.toNat) 0) else none
 | _=>none
def iaT (sz:Nat)(hp:List (Option Obj)):V→V→Option V
 | .d (.l sz' xs),.d (.i _ i)=>if sz'=sz∧0 ≤ i then Zec xs[i.toNat]? else none
 | .own _ _ sz' xs,.d (.i _ i)=>if sz'=sz∧0 ≤ i then Zec xs[i.toNat]? else none
 | .arr id ver off len,.d (.i _ i)=>iaO sz id ver off len i (zbk hp id)
 | _,_=>none
theorem Zi3 (sz:Nat)(x y:A):go C K b (⟨some d,.ia sz x y,none,p⟩ :: r) j tm hp es=goV C K b d r j tm hp es (zb8 (evT tm x)) (iaT sz hp (evT tm x) (evT tm y)):=by
 rw [zbh _ _ rfl]
 simp only [Cop.args,Qb,Qc,act]
 have h1:∀ v,Cop.ids (.ia sz x y) [evT tm x,v]=zb8 (evT tm x):=fun v=>by cases evT tm x <;> rfl
 rw [h1]
 generalize evT tm y=v
 have h2:iaT sz hp (evT tm x) v=zw1 sz [evT tm x,v] ((zb8 (evT tm x)).map (zbk hp)):=by
  cases evT tm x with
  | d x =>
   cases x with
   | l sz' xs =>
    cases v with
    | d y =>
     cases y with
     | i k i=>simp only [iaT,zb8,Qc,zw1]; by_cases hc:sz'=sz∧0 ≤ i <;> simp only [hc,and_self,if_true,if_false] <;> first | rfl | (cases xs[i.toNat]? <;> rfl)
     | _=>rfl
    | _=>rfl
   | _=>cases v <;> rfl
  | own id ver sz' xs =>
   cases v with
   | d y =>
    cases y with
    | i k i=>simp only [iaT,zb8,Qc,zw1]; by_cases hc:sz'=sz∧0 ≤ i <;> simp only [hc,and_self,if_true,if_false] <;> first | rfl | (cases xs[i.toNat]? <;> rfl)
    | _=>rfl
   | _=>rfl
  | arr id ver off len =>
   cases v with
   | d y =>
    cases y with
    | i k i =>
     simp only [iaT,zb8,Qb,Qc]
     cases zbk hp id with
     | none=>rfl
     | some o=>cases o <;> rfl
    | _=>simp only [iaT,zb8,Qb,Qc]; cases zbk hp id with | none=>rfl | some o=>cases o <;> rfl
   | _=>simp only [iaT,zb8,Qb,Qc]; cases zbk hp id with | none=>rfl | some o=>cases o <;> rfl
  | _=>rfl
 rw [h2]
 cases zw1 sz [evT tm x,v] ((zb8 (evT tm x)).map (zbk hp)) <;> rfl
def goB (C:zbg)(K:St→List Foot→Prop)(b d:Nat)(r:List CO)(j:Nat)(tm:List (Nat × V))(hp:List (Option Obj))(es:List Foot):Option (List V)→Prop
 | none=>False
 | some c=>go C K b r (j + 1) ((d,.ptr (b + j) 0) :: tm) (hp.set (b + j) (some (.box c))) (⟨[],false,b + j,1⟩ :: es)
theorem Zed (x:A):go C K b (⟨some d,.box x,none,p⟩ :: r) j tm hp es=goB C K b d r j tm hp es (evT tm x).cel:=by
 rw [zbh _ _ rfl]
 simp only [Cop.args,Qb,Qc,act,Cop.ids]
 cases (evT tm x).cel <;> rfl
theorem z7f (z:V):go C K b (⟨some d,.zero z,none,p⟩ :: r) j tm hp es=go C K b r (j + 1) ((d,.ptr (b + j) 0) :: tm) (hp.set (b + j) (some (.box z.cells))) (⟨[],false,b + j,1⟩ :: es):=by
 rw [zbh _ _ rfl]; rfl
def Zka:V→Option V
 | .d (.l _ xs)=>some (.d (.i .i64 xs.length))
 | .own _ _ _ xs=>some (.d (.i .i64 xs.length))
 | .nil _=>some (.d (.i .i64 0))
 | .arr _ _ _ n=>some (.d (.i .i64 n))
 | _=>none
theorem z7g (x:A):go C K b (⟨some d,.len 0 x,none,p⟩ :: r) j tm hp es=match evT tm x with
  | .map id=>zmy C K b (some d) (.len 0 x) r j tm hp es [id] none
  | v=>goV C K b d r j tm hp es [] (Zka v):=by
 rw [zbh _ _ rfl]
 simp only [Cop.args,Qb,Qc]
 generalize evT tm x=v
 cases v with
 | d x=>cases x <;> rfl
 | _=>rfl
def Zkb:V→Option V
 | .d (.s x)=>some (.d (.i .i64 x.length))
 | _=>none
theorem z7h (x:A):go C K b (⟨some d,.len 1 x,none,p⟩ :: r) j tm hp es=match evT tm x with
  | .map id=>zmy C K b (some d) (.len 1 x) r j tm hp es [id] none
  | v=>goV C K b d r j tm hp es [] (Zkb v):=by
 rw [zbh _ _ rfl]
 simp only [Cop.args,Qb,Qc]
 generalize evT tm x=v
 cases v with
 | d x=>cases x <;> rfl
 | _=>rfl
def zys (cs:Option (List V)):Option V:=match cs with | some c=>some (.agg c) | none=>none
theorem z2b (z:List V)(ps:List (Nat × Nat × A)):go C K b (⟨some d,.build z ps,none,p⟩ :: r) j tm hp es=goV C K b d r j tm hp es [] (zys (zjv z (ps.map fun q=>(q.1,q.2.1,evT tm q.2.2)))):=by
 rw [zbh _ _ rfl]
 have hz:∀ (ps:List (Nat × Nat × A)),z55 ps ((ps.map (·.2.2)).map (evT tm))=ps.map fun q=>(q.1,q.2.1,evT tm q.2.2):=by
  intro ps
  induction ps with
  | nil=>rfl
  | cons q ps ih=>obtain ⟨a,c,e⟩:=q; simp only [Qb,z55,ih]
 simp only [Cop.args,Cop.ids,act,hz]
 cases zjv z (ps.map fun q=>(q.1,q.2.1,evT tm q.2.2)) <;> rfl
def goT (C:zbg)(K:St→List Foot→Prop)(b d sz:Nat)(r:List CO)(j:Nat)(tm:List (Nat × V))(hp:List (Option Obj))(es:List Foot):Option (List (List D))→Prop
 | none=>False
 | some xs=>go C K b r (j + 1) ((d,.own (b + j) 0 sz xs) :: tm) (hp.set (b + j) (some (.tok 0 sz))) (⟨[],false,b + j,1⟩ :: es)
theorem Zee (sz n:Nat)(z:List D)(ps:List (Nat × A)):go C K b (⟨some d,.bsl sz n z ps,none,p⟩ :: r) j tm hp es=goT C K b d sz r j tm hp es (zjw sz (List.replicate n z) (ps.map fun q=>(q.1,evT tm q.2))):=by
 rw [zbh _ _ rfl]
 have hz:∀ (ps:List (Nat × A)),z1u ps ((ps.map (·.2)).map (evT tm))=ps.map fun q=>(q.1,evT tm q.2):=by
  intro ps
  induction ps with
  | nil=>rfl
  | cons q ps ih=>obtain ⟨a,e⟩:=q; simp only [Qb,z1u,ih]
 simp only [Cop.args,Cop.ids,act,hz]
 cases zjw sz (List.replicate n z) (ps.map fun q=>(q.1,evT tm q.2)) <;> rfl
def Zh7 (C:zbg)(K:St→List Foot→Prop)(b d sz bytes:Nat)(r:List CO)(j:Nat)(tm:List (Nat × V))(hp:List (Option Obj))(es:List Foot)(id ver sz':Nat)(xs ys:List (List D)):Option Obj→Prop
 | some (.tok ver' sz'')=>(ver=ver'∧sz'=sz∧sz''=sz∧zbi (xs.length + ys.length) bytes=true)∧go C K b r (j + 1) ((d,.own id (ver + 1) sz (xs++ys)) :: tm) (hp.set id (some (.tok (ver + 1) sz))) (⟨[id],true,b + j,0⟩ :: es)
 | _=>False
def goA (C:zbg)(K:St→List Foot→Prop)(b d sz bytes:Nat)(r:List CO)(j:Nat)(tm:List (Nat × V))(hp:List (Option Obj))(es:List Foot):V→Option (List (List D))→Prop
 | .nil _,some ys=>zbi ys.length bytes=true∧go C K b r (j + 1) ((d,.own (b + j) 0 sz ys) :: tm) (hp.set (b + j) (some (.tok 0 sz))) (⟨[],true,b + j,1⟩ :: es)
 | .own id ver sz' xs,some ys=>Zh7 C K b d sz bytes r j tm hp es id ver sz' xs ys (zbk hp id)
 | _,_=>False
theorem Zef (sz bytes:Nat)(x y:A):go C K b (⟨some d,.app sz bytes x y,none,p⟩ :: r) j tm hp es=goA C K b d sz bytes r j tm hp es (evT tm x) (ze5 sz (evT tm y)):=by
 rw [zbh _ _ rfl]
 simp only [Cop.args,Qb,Qc,act]
 generalize evT tm y=v at *
 cases evT tm x with
 | nil sz' =>
  cases hy:ze5 sz v with
  | none=>simp only [Cop.ids,Qc,zei,hy]; rfl
  | some ys =>
   cases hr:zbi ys.length bytes with
   | true=>simp only [Cop.ids,Qc,zei,hy,hr,if_true,goA,true_and]; rfl
   | false=>simp only [Cop.ids,Qc,zei,hy,hr,goA,false_and,Qm,if_false]; rfl
 | own id ver sz' xs =>
  simp only [Cop.ids,Qb,Qc]
  cases hy:ze5 sz v with
  | none =>
   simp only [goA]
   cases zbk hp id with
   | none=>rfl
   | some o =>
    cases o with
    | tok ver' sz''=>simp only [zei,hy]; split <;> rfl
    | _=>rfl
  | some ys =>
   simp only [goA]
   cases zbk hp id with
   | none=>rfl
   | some o =>
    cases o with
    | tok ver' sz'' =>
     simp only [zei,hy,Zh7]
     by_cases hc:ver=ver'∧sz'=sz∧sz''=sz
     ·rw [if_pos hc]
      obtain ⟨rfl,rfl,rfl⟩:=hc
      cases hr:zbi (xs.length + ys.length) bytes with
      | true=>simp only [if_true,and_self,true_and]; rfl
      | false=>simp only [Qm,and_false,false_and,if_false]; rfl
     ·rw [if_neg hc]
      refine propext ⟨fun h=>h.elim,fun h=>hc ⟨h.1.1,h.1.2.1,h.1.2.2.1⟩⟩
    | _=>rfl
 | _=>rfl
def Zi4 (sz:Nat)(xs:List (List D)):Option (Nat × Nat)→Option V
 | some (l,h)=>some (.d (.l sz ((xs.take h).drop l)))
 | none=>none
def Zi5 (id ver sz:Nat)(xs:List (List D)):Option (Nat × Nat)→Option V
 | some (l,h)=>if h=xs.length then some (.own id ver sz (xs.drop l)) else some (.d (.l sz ((xs.take h).drop l)))
 | none=>none
def zon (sz:Nat)(hp:List (Option Obj))(x:V)(lo hi:Option V):Option V:=zdt sz x lo hi ((zb8 x).map (zbk hp))
def Zh8 (sz id ver off:Nat)(bs:Option (Nat × Nat)):Option Obj→Option V
 | some (.arr _ sz' _)=>if sz'=sz then match bs with
   | some (l,h)=>some (.arr id ver (off + l) (h - l))
   | none=>none
  else none
 | _=>none
theorem Zeg (sz:Nat)(hp:List (Option Obj))(xs:List (List D))(lo hi:Option V):zon sz hp (.d (.l sz xs)) lo hi=Zi4 sz xs (zbr lo hi xs.length):=by
 simp only [zon,zdt,if_true]
 cases zbr lo hi xs.length <;> rfl
theorem z2c (id ver sz:Nat)(hp:List (Option Obj))(xs:List (List D))(lo hi:Option V):zon sz hp (.own id ver sz xs) lo hi=Zi5 id ver sz xs (zbr lo hi xs.length):=by
 simp only [zon,zdt,if_true]
 cases zbr lo hi xs.length <;> rfl
theorem z2d (id ver off len sz:Nat)(hp:List (Option Obj))(lo hi:Option V):zon sz hp (.arr id ver off len) lo hi=Zh8 sz id ver off (zbr lo hi len) (zbk hp id):=by
 simp only [zon,zdt,zb8,Qb,Qc]
 cases zbk hp id with
 | none=>rfl
 | some o=>cases o <;> rfl
theorem zjs (sz:Nat)(x:A)(lo hi:Option A)(v:V)(r:List V):Cop.ids (.slc sz x lo hi) (v :: r)=zb8 v:=by cases v <;> rfl
theorem z2e (sz:Nat)(x:A):go C K b (⟨some d,.slc sz x none none,none,p⟩ :: r) j tm hp es=goV C K b d r j tm hp es (zb8 (evT tm x)) (zon sz hp (evT tm x) none none):=by
 rw [zbh _ _ rfl]
 simp only [Cop.args,Option.toList_none,List.append_nil,Qb,Qc,zjs,act]
 unfold zon
 cases zdt sz (evT tm x) none none ((zb8 (evT tm x)).map (zbk hp)) <;> rfl
theorem z2f (sz:Nat)(x lo:A):go C K b (⟨some d,.slc sz x (some lo) none,none,p⟩ :: r) j tm hp es=goV C K b d r j tm hp es (zb8 (evT tm x)) (zon sz hp (evT tm x) (some (evT tm lo)) none):=by
 rw [zbh _ _ rfl]
 simp only [Cop.args,Option.toList_none,Option.toList_some,List.append_nil,List.cons_append,List.nil_append,Qb,Qc,zjs,act]
 unfold zon
 cases zdt sz (evT tm x) (some (evT tm lo)) none ((zb8 (evT tm x)).map (zbk hp)) <;> rfl
theorem z2g (sz:Nat)(x hi:A):go C K b (⟨some d,.slc sz x none (some hi),none,p⟩ :: r) j tm hp es=goV C K b d r j tm hp es (zb8 (evT tm x)) (zon sz hp (evT tm x) none (some (evT tm hi))):=by
 rw [zbh _ _ rfl]
 simp only [Cop.args,Option.toList_none,Option.toList_some,List.append_nil,List.cons_append,List.nil_append,Qb,Qc,zjs,act]
 unfold zon
 cases zdt sz (evT tm x) none (some (evT tm hi)) ((zb8 (evT tm x)).map (zbk hp)) <;> rfl
theorem z2h (sz:Nat)(x lo hi:A):go C K b (⟨some d,.slc sz x (some lo) (some hi),none,p⟩ :: r) j tm hp es=goV C K b d r j tm hp es (zb8 (evT tm x)) (zon sz hp (evT tm x) (some (evT tm lo)) (some (evT tm hi))):=by
 rw [zbh _ _ rfl]
 simp only [Cop.args,Option.toList_some,List.cons_append,List.nil_append,Qb,Qc,zjs,act]
 unfold zon
 cases zdt sz (evT tm x) (some (evT tm lo)) (some (evT tm hi)) ((zb8 (evT tm x)).map (zbk hp)) <;> rfl
def Zap (neg:Bool):V→V→Option V
 | .d (.b x),.d (.b y)=>some (.d (.b (if neg then x != y else x == y)))
 | _,_=>none
theorem Zeh (neg:Bool)(x y:A):go C K b (⟨some d,.eqb neg x y,none,p⟩ :: r) j tm hp es=goV C K b d r j tm hp es [] (Zap neg (evT tm x) (evT tm y)):=by
 rw [zbh _ _ rfl]
 simp only [Cop.args,Qb,Qc,Cop.ids,act]
 generalize evT tm x=u
 generalize evT tm y=v
 cases u with
 | d u =>
  cases u with
  | b u =>
   cases v with
   | d v=>cases v <;> rfl
   | _=>rfl
  | _=>rfl
 | _=>rfl
theorem z7i (x y:Bool):Zap false (.d (.b x)) (.d (.b y))=some (.d (.b (decide (x=y)))):=by cases x <;> cases y <;> rfl
theorem z7j (x y:Bool):Zap true (.d (.b x)) (.d (.b y))=some (.d (.b (decide (¬ x=y)))):=by cases x <;> cases y <;> rfl
def ztz (neg:Bool)(x:V):Option V:=match zmh x with
 | some r=>some (.d (.b (if neg then !r else r)))
 | none=>none
theorem z7k (neg:Bool)(x:A):go C K b (⟨some d,.nils neg x,none,p⟩ :: r) j tm hp es=goV C K b d r j tm hp es [] (ztz neg (evT tm x)):=by
 rw [zbh _ _ rfl]
 simp only [Cop.args,Qb,Qc,Cop.ids,act,ztz]
 cases zmh (evT tm x) <;> rfl
def ixO:Option UInt8→Option V
 | some c=>some (.d (.i .u8 c.toNat))
 | none=>none
def Zh9:V→V→Option V
 | .d (.s x),.d (.i _ i)=>if 0 ≤ i then ixO x[i.toNat]? else none
 | _,_=>none
theorem Zei (x y:A):go C K b (⟨some d,.ixs x y,none,p⟩ :: r) j tm hp es=goV C K b d r j tm hp es [] (Zh9 (evT tm x) (evT tm y)):=by
 rw [zbh _ _ rfl]
 simp only [Cop.args,Qb,Qc,Cop.ids,act]
 generalize evT tm x=u
 generalize evT tm y=v
 cases u with
 | d u =>
  cases u with
  | s u =>
   cases v with
   | d v =>
    cases v with
    | i k i =>
     simp only [Zh9]
     by_cases h:0 ≤ i
     ·simp only [h,if_true]; cases u[i.toNat]? <;> rfl
     ·simp only [h,if_false]; rfl
    | _=>rfl
   | _=>rfl
  | _=>rfl
 | _=>rfl
def Zi6 (x:List UInt8):Option (Nat × Nat)→Option V
 | some (l,h)=>some (.d (.s ((x.take h).drop l)))
 | none=>none
def z1t (lo hi:Option V):V→Option V
 | .d (.s x)=>Zi6 x (zbr lo hi x.length)
 | _=>none
theorem z2i (x lo:A):go C K b (⟨some d,.sls x (some lo) none,none,p⟩ :: r) j tm hp es=goV C K b d r j tm hp es [] (z1t (some (evT tm lo)) none (evT tm x)):=by
 rw [zbh _ _ rfl]
 simp only [Cop.args,Option.toList,List.append_nil,Qb,Qc,Cop.ids,act,List.cons_append,List.nil_append]
 generalize evT tm x=u
 cases u with
 | d u =>
  cases u with
  | s u=>simp only [z1t]; cases zbr (some (evT tm lo)) none u.length <;> rfl
  | _=>rfl
 | _=>rfl
theorem z2j (x hi:A):go C K b (⟨some d,.sls x none (some hi),none,p⟩ :: r) j tm hp es=goV C K b d r j tm hp es [] (z1t none (some (evT tm hi)) (evT tm x)):=by
 rw [zbh _ _ rfl]
 simp only [Cop.args,Option.toList,List.append_nil,Qb,Qc,Cop.ids,act,List.cons_append,List.nil_append]
 generalize evT tm x=u
 cases u with
 | d u =>
  cases u with
  | s u=>simp only [z1t]; cases zbr none (some (evT tm hi)) u.length <;> rfl
  | _=>rfl
 | _=>rfl
theorem z2k (x lo hi:A):go C K b (⟨some d,.sls x (some lo) (some hi),none,p⟩ :: r) j tm hp es=goV C K b d r j tm hp es [] (z1t (some (evT tm lo)) (some (evT tm hi)) (evT tm x)):=by
 rw [zbh _ _ rfl]
 simp only [Cop.args,Option.toList,Qb,Qc,Cop.ids,act,List.cons_append,List.nil_append]
 generalize evT tm x=u
 cases u with
 | d u =>
  cases u with
  | s u=>simp only [z1t]; cases zbr (some (evT tm lo)) (some (evT tm hi)) u.length <;> rfl
  | _=>rfl
 | _=>rfl
def Zi7:Option (List UInt8)→Option V
 | some b=>some (.d (.s b))
 | none=>none
theorem Zej (x:A):go C K b (⟨some d,.bts x,none,p⟩ :: r) j tm hp es=goV C K b d r j tm hp es [] (Zi7 (zjx (evT tm x))):=by
 rw [zbh _ _ rfl]
 simp only [Cop.args,Qb,Qc,Cop.ids,act]
 cases zjx (evT tm x) <;> rfl
def Zi8 (n:Int):Option (List UInt8)→Option (List UInt8)
 | some b=>some (UInt8.ofNat n.toNat :: b)
 | none=>none
theorem zmz (n:Int)(r:List (List D)):zd0 ([.i .u8 n] :: r)=Zi8 n (zd0 r):=by
 rw [zd0]
 cases zd0 r <;> rfl
def Zek (n:Nat)(z:List D):List (List D):=List.replicate n z
def Zi9 (n:Nat):List UInt8:=List.replicate n 0
theorem zo2:∀ (n:Nat),zd0 (Zek n [.i .u8 0])=some (Zi9 n)
 | 0=>rfl
 | n + 1=>by
  have:=zo2 n
  unfold Zek Zi9 at *
  rw [List.replicate_succ,zmz,this]; rfl
def Zel (sz bytes fresh:Nat)(z:List D)(ow:Bool):V→V→Option (V × Obj)
 | .d (.i _ l),.d (.i _ c)=>if 0 ≤ l∧l ≤ c∧zbi c.toNat bytes then
   if l=0 ∨ ow=true then some (.own fresh 0 sz (List.replicate l.toNat z),.tok 0 sz)
   else if l=c then some (.arr fresh 0 0 l.toNat,.arr 0 sz (List.replicate l.toNat (ofDs z))) else none
  else none
 | _,_=>none
def goN (C:zbg)(K:St→List Foot→Prop)(b d:Nat)(r:List CO)(j:Nat)(tm:List (Nat × V))(hp:List (Option Obj))(es:List Foot):Option (V × Obj)→Prop
 | none=>False
 | some (v,o)=>go C K b r (j + 1) ((d,v) :: tm) (hp.set (b + j) (some o)) (⟨[],false,b + j,1⟩ :: es)
theorem Zem (sz bytes:Nat)(z:List D)(ow:Bool)(x y:A):go C K b (⟨some d,.mks sz bytes z ow x y,none,p⟩ :: r) j tm hp es=goN C K b d r j tm hp es (Zel sz bytes (b + j) z ow (evT tm x) (evT tm y)):=by
 rw [zbh _ _ rfl]
 simp only [Cop.args,Qb,Qc,Cop.ids,act]
 generalize evT tm x=u
 generalize evT tm y=v
 cases u with
 | d u =>
  cases u with
  | i k l =>
   cases v with
   | d v =>
    cases v with
    | i k' c =>
     simp only [Zel]
     by_cases h1:0 ≤ l∧l ≤ c∧zbi c.toNat bytes=true
     ·rw [if_pos h1,if_pos h1]
      by_cases h2:l=0 ∨ ow=true
      ·rw [if_pos h2,if_pos h2]; rfl
      ·rw [if_neg h2,if_neg h2]
       by_cases h3:l=c
       ·rw [if_pos h3,if_pos h3]; rfl
       ·rw [if_neg h3,if_neg h3]; rfl
     ·rw [if_neg h1,if_neg h1]; rfl
    | _=>rfl
   | _=>rfl
  | _=>rfl
 | _=>rfl
def rng:Nat→Nat→List Nat
 | _,0=>[]
 | i,n + 1=>i :: rng (i + 1) n
theorem z52:∀ (n i:Nat),rng i n=List.range' i n
 | 0,i=>rfl
 | n + 1,i=>by rw [rng,z52 n,List.range'_succ]
def Zja (vs:List V)(L:List Nat):Option (List (Option Obj))→Option (V × List (Option Obj))
 | some h=>some (V.ren (za4 L) zbs (zf3 vs),h)
 | none=>none
def Zia (vs:List V)(hp:List (Option Obj)):Option (List Nat)→Option (V × List (Option Obj))
 | some L=>Zja vs L (zbp (za4 L) zbs 0 (L.map (zbk hp)))
 | none=>none
def zya (m:Nat)(hp:List (Option Obj)):Option (List V)→Option (V × List (Option Obj))
 | some vs=>Zia vs hp (zb5 (zbk hp) far (rng 0 m++V.refsAll vs) [])
 | none=>none
theorem zh8 (m:Nat)(rs:List Ret):zdw m ⟨tm,hp⟩ rs=zya m hp (zdv ⟨tm,hp⟩ rs):=by
 unfold zdw
 cases zdv ⟨tm,hp⟩ rs with
 | none=>rfl
 | some vs =>
  simp only [zya]
  rw [z52,← List.range_eq_range']
  show (match zb5 (zbk hp) far (List.range m++V.refsAll vs) [] with | none=>none | some L=>_)=_
  cases zb5 (zbk hp) far (List.range m++V.refsAll vs) [] with
  | none=>rfl
  | some L =>
   simp only [Zia]
   show (match zbp (za4 L) zbs 0 (L.map (zbk hp)) with | none=>none | some h=>_)=_
   cases zbp (za4 L) zbs 0 (L.map (zbk hp)) <;> rfl
def Zaq (tm:List (Nat × V))(hp:List (Option Obj))(t:Nat):V→St
 | .nil sz=>⟨(t,.own hp.length 0 sz []) :: tm,hp++[some (.tok 0 sz)]⟩
 | _=>⟨tm,hp⟩
def zlr:List Nat→St→St
 | [],s=>s
 | t :: r,s=>zlr r (ze1 s t)
def zls:List (Nat × Nat)→St→St
 | [],s=>s
 | t :: r,s=>zls r (zd2 s t)
theorem zrw (t:Nat):ze1 ⟨tm,hp⟩ t=Zaq tm hp t (zba tm t):=by
 unfold ze1
 show (match zba tm t with | .nil sz=>_ | _=>_)=_
 cases zba tm t <;> rfl
def zma (tm:List (Nat × V)):List Nat→List (Nat × V)
 | []=>[]
 | t :: r=>(t,zba tm t) :: zma tm r
theorem zmf (tm:List (Nat × V))(hp:List (Option Obj)):∀ (l:List Nat),ze9 ⟨tm,hp⟩ l=zma tm l
 | []=>rfl
 | t :: r=>by rw [ze9,zma,zmf tm hp r]; rfl
def z2l (l:List Nat):St→St
 | ⟨tm,hp⟩=>⟨zma tm l,hp⟩
def zi3:List Nat→St→St
 | [],s=>s
 | t :: r,s=>zi3 r (zi7 s t)
def zi4:List (Nat × Nat)→St→St
 | [],s=>s
 | t :: r,s=>zi4 r (zit s t)
theorem zt0 (k o:List Nat)(ob:List (Nat × Nat))(da:List Nat)(db:List (Nat × Nat))(tr:Bool)(s:St):z79 ⟨k,o,ob,da,db,tr⟩ s=zi4 db (zi3 da s):=by
 have h1:∀ (l:List Nat) (s:St),l.foldl zi7 s=zi3 l s:=by
  intro l
  induction l with
  | nil=>intro s; rfl
  | cons t l ih=>intro s; exact ih _
 have h2:∀ (l:List (Nat × Nat)) (s:St),l.foldl zit s=zi4 l s:=by
  intro l
  induction l with
  | nil=>intro s; rfl
  | cons t l ih=>intro s; exact ih _
 unfold z79
 simp only [h1,h2]
def z7l (tm:List (Nat × V))(hp:List (Option Obj))(id k:Nat)(cs:List V):Option V→St
 | some v=>⟨tm,hp.set id (some (.box (cs.set k (zr7 v))))⟩
 | none=>⟨tm,hp⟩
def z2m (tm:List (Nat × V))(hp:List (Option Obj))(id k:Nat):Option Obj→St
 | some (.box cs)=>z7l tm hp id k cs cs[k]?
 | _=>⟨tm,hp⟩
def z2n (tm:List (Nat × V))(hp:List (Option Obj))(c:Nat):V→St
 | .ptr id off=>z2m tm hp id (off + c) (zbk hp id)
 | _=>⟨tm,hp⟩
theorem zyt (t c:Nat):zit ⟨tm,hp⟩ (t,c)=z2n tm hp c (zba tm t):=by
 unfold zit
 show (match zba tm t with | .ptr id off=>_ | _=>_)=_
 cases zba tm t with
 | ptr id off =>
  simp only [z2n]
  show (match zbk hp id with | some (.box cs)=>_ | _=>_)=_
  cases zbk hp id with
  | none=>rfl
  | some o =>
   cases o with
   | box cs=>simp only [z2m]; cases cs[off + c]? <;> rfl
   | _=>rfl
 | _=>rfl
def zyu (tm:List (Nat × V))(hp:List (Option Obj))(id k:Nat)(cs:List V):Option V→St
 | some (.nil sz)=>⟨tm,(hp.set id (some (.box (cs.set k (.own hp.length 0 sz [])))))++[some (.tok 0 sz)]⟩
 | _=>⟨tm,hp⟩
def z2o (tm:List (Nat × V))(hp:List (Option Obj))(id k:Nat):Option Obj→St
 | some (.box cs)=>zyu tm hp id k cs cs[k]?
 | _=>⟨tm,hp⟩
def Zen (tm:List (Nat × V))(hp:List (Option Obj))(c:Nat):V→St
 | .ptr id off=>z2o tm hp id (off + c) (zbk hp id)
 | _=>⟨tm,hp⟩
def zt1 (tm:List (Nat × V))(hp:List (Option Obj))(t c:Nat):V→St
 | .nil sz=>⟨(t,.arr hp.length 0 0 0) :: tm,hp++[some (.arr 0 sz [])]⟩
 | v=>Zen tm hp c v
theorem zyv (t c:Nat):zd2 ⟨tm,hp⟩ (t,c)=zt1 tm hp t c (zba tm t):=by
 unfold zd2
 show (match zba tm t with | .ptr id off=>_ | .nil sz=>_ | _=>_)=_
 cases zba tm t with
 | ptr id off =>
  simp only [zt1,Zen]
  show (match zbk hp id with | some (.box cs)=>_ | _=>_)=_
  cases zbk hp id with
  | none=>rfl
  | some o =>
   cases o with
   | box cs =>
    simp only [z2o]
    cases cs[off + c]? with
    | none=>rfl
    | some v=>cases v <;> rfl
   | _=>rfl
 | _=>rfl
theorem z2p (k o:List Nat)(ob:List (Nat × Nat))(da:List Nat)(db:List (Nat × Nat))(tr:Bool)(s:St):enter ⟨k,o,ob,da,db,tr⟩ s=z2l k (zi4 db (zi3 da (zls ob (zlr o s)))):=by
 have h1:∀ (l:List Nat) (s:St),l.foldl ze1 s=zlr l s:=by
  intro l
  induction l with
  | nil=>intro s; rfl
  | cons t l ih=>intro s; exact ih _
 have h2:∀ (l:List (Nat × Nat)) (s:St),l.foldl zd2 s=zls l s:=by
  intro l
  induction l with
  | nil=>intro s; rfl
  | cons t l ih=>intro s; exact ih _
 unfold enter
 simp only [h1,h2,zt0]
 cases zi4 db (zi3 da (zls ob (zlr o s))) with
 | mk tm hp=>simp only [z2l,zmf]
def zin (n:Nat)(tm:List (Nat × V))(h:List (Option Obj)):Option St:=if zdk n tm && underH n h then some ⟨zer h tm,normH h h⟩ else none
where
 underH (n:Nat):List (Option Obj)→Bool
  | []=>true
  | o :: r=>Obj.under n o && underH n r
 normH (h:List (Option Obj)):List (Option Obj)→List (Option Obj)
  | []=>[]
  | o :: r=>zcf h o :: normH h r
theorem zrx (n:Nat):∀ (h:List (Option Obj)),zin.underH n h=h.all (Obj.under n)
 | []=>rfl
 | o :: r=>by simp [zin.underH,zrx n r]
theorem zu9 (h:List (Option Obj)):∀ (l:List (Option Obj)),zin.normH h l=l.map (zcf h)
 | []=>rfl
 | o :: r=>by simp [zin.normH,zu9 h r]
def z2q (k:List Nat)(n:Nat):St→Option St
 | ⟨tm,hp⟩=>zin n (zma tm k) (hp.take n)
def zva (k:List Nat):St→Option St
 | ⟨tm,hp⟩=>some ⟨zma tm k,hp⟩
theorem z7m (k o:List Nat)(ob:List (Nat × Nat))(da:List Nat)(db:List (Nat × Nat))(n:Nat)(s:St):zor ⟨k,o,ob,da,db,true⟩ n s=z2q k n (zi4 db (zi3 da s)):=by
 unfold zor
 simp only [zt0]
 cases zi4 db (zi3 da s) with
 | mk tm hp=>simp only [if_true,zmf,zrx,zu9,z2q,zin]
theorem z2r (k o:List Nat)(ob:List (Nat × Nat))(da:List Nat)(db:List (Nat × Nat))(n:Nat)(s:St):zor ⟨k,o,ob,da,db,false⟩ n s=zva k (zi4 db (zi3 da s)):=by
 unfold zor
 simp only [zt0]
 cases zi4 db (zi3 da s) with
 | mk tm hp=>simp only [Qm,if_false,zmf,zva]
def z2s (id ver sz:Nat)(xs:List (List D)):Option Obj→V
 | some (.tok ver' _)=>if ver=ver' then .own id 0 sz xs else .d (.l sz xs)
 | _=>.d (.l sz xs)
theorem zry (h:List (Option Obj))(id ver sz:Nat)(xs:List (List D)):zek h (.own id ver sz xs)=z2s id ver sz xs (zbk h id):=by
 simp only [zek,zbk]
 generalize (h[id]?).join=o
 cases o with
 | none=>rfl
 | some o=>cases o <;> rfl
def z2t (id ver off len:Nat):Option Obj→V
 | some (.arr ver' _ _)=>if ver=ver' then .arr id ver off len else .bad
 | _=>.bad
theorem zrz (h:List (Option Obj))(id ver off len:Nat):zek h (.arr id ver off len)=z2t id ver off len (zbk h id):=by
 simp only [zek,zbk]
 generalize (h[id]?).join=o
 cases o with
 | none=>rfl
 | some o=>cases o <;> rfl
end
open Go
def evL (tm:List (Nat × V)):List A→List V
 | []=>[]
 | a :: r=>evT tm a :: evL tm r
theorem zjt (tm:List (Nat × V)):∀ (as:List A),evL tm as=as.map (evT tm)
 | []=>rfl
 | a :: r=>by simp [evL,zjt tm r]
def evP (tm:List (Nat × V))(ps:List (Nat × Nat × A)):List (Nat × Nat × V):=ps.map fun q=>(q.1,q.2.1,evT tm q.2.2)
def evI (tm:List (Nat × V))(ps:List (Nat × A)):List (Nat × V):=ps.map fun q=>(q.1,evT tm q.2)
def Zeo (C:zbg)(K:St→List Foot→Prop)(b d:Nat)(r:List CO)(j:Nat)(tm:List (Nat × V))(hp:List (Option Obj))(es:List Foot)(x:A)(v:V):Prop:=match v with
 | .map id=>zmy C K b (some d) (.len 0 x) r j tm hp es [id] none
 | v=>goV C K b d r j tm hp es [] (Zka v)
def Zkc (C:zbg)(K:St→List Foot→Prop)(b d:Nat)(r:List CO)(j:Nat)(tm:List (Nat × V))(hp:List (Option Obj))(es:List Foot)(x:A)(v:V):Prop:=match v with
 | .map id=>zmy C K b (some d) (.len 1 x) r j tm hp es [id] none
 | v=>goV C K b d r j tm hp es [] (Zkb v)
def Zkd (hp:List (Option Obj))(id:Nat):Option (List V)→Option (List (Option Obj))
 | some cs=>some (hp.set id (some (.box cs)))
 | none=>none
def z7n (cs:Option (List V))(r:List (Nat × Nat × V)):Option (List V):=match cs with | some cs=>zjv cs r | none=>none
def z7o (cs:List V)(o n:Nat)(c:Option (List V))(r:List (Nat × Nat × V)):Option (List V):=match c with
 | some c=>if c.length=n then z7n (over cs o c) r else none
 | none=>none
def zyw (sz:Nat)(xs:List (List D))(i:Nat)(r:List (Nat × V))(ds:Option (List D)):Option (List (List D)):=match ds with
 | some ds=>if ds.length=sz∧i < xs.length then zjw sz (xs.set i ds) r else none
 | none=>none
def Zep (x:Option D)(r:Option (List D)):Option (List D):=match x,r with | some x,some r=>some (x :: r) | _,_=>none
def Zjb (ag:Bool)(n off:Nat):Option Obj→Option V
 | some (.box cs)=>match asO ag n (zby cs off n) with | some v=>v.hand | none=>none
 | _=>none
def Zib (ag:Bool)(n:Nat)(hp:List (Option Obj)):V→Option V
 | .ptr id off=>match (hp[id]?).join with
  | some (.box cs)=>match zby cs off n with
   | some c=>match zio ag n c with | some v=>v.hand | none=>none
   | none=>none
  | _=>none
 | _=>none
def Zeq:Option V→Option V
 | some v=>v.hand
 | none=>none
def z2u (x:Option V)(r:Option (List V)):Option (List V):=match x,r with | some x,some r=>some (x :: r) | _,_=>none
def Zer (o:Obj)(r:Option (List (Option Obj))):Option (List (Option Obj)):=match r with | some r=>some (some o :: r) | none=>none
def Zke (x:Option (List V)):Option V:=match x with | some x=>some (.agg x) | none=>none
theorem evW :
  (∀ (C:zbg) (K:St→List Foot→Prop) (b j:Nat) (tm:List (Nat × V)) (hp:List (Option Obj)) (es:List Foot),go C K b [] j tm hp es=K ⟨tm,hp⟩ es.reverse) ∧
  (∀ C K b r j tm hp es (d p:Nat) (x:A),go C K b (⟨some d,.mv x,none,p⟩ :: r) j tm hp es=go C K b r j ((d,evT tm x) :: tm) hp (⟨[],false,b + j,0⟩ :: es)) ∧
  (∀ C K b r j tm hp es (d p:Nat) (op:BinOp) (x y:A),go C K b (⟨some d,.bin op x y,none,p⟩ :: r) j tm hp es=goV C K b d r j tm hp es [] (oD (binOp op (evT tm x) (evT tm y)))) ∧
  (∀ C K b r j tm hp es (d p:Nat) (op:UnOp) (x:A),go C K b (⟨some d,.un op x,none,p⟩ :: r) j tm hp es=goV C K b d r j tm hp es [] (oD (unOp op (evT tm x)))) ∧
  (∀ C K b r j tm hp es (d p:Nat) (x y z:A),go C K b (⟨some d,.pick x y z,none,p⟩ :: r) j tm hp es=goV C K b d r j tm hp es [] (z7a (evT tm x) (evT tm y) (evT tm z))) ∧
  (∀ C K b r j tm hp es (d p o:Nat) (x:A),go C K b (⟨some d,.fa o x,none,p⟩ :: r) j tm hp es=goV C K b d r j tm hp es [] (faV o (evT tm x))) ∧
  (∀ C K b r j tm hp es (d p:Nat) (ag:Bool) (o n:Nat) (x:A),go C K b (⟨some d,.fl ag o n x,none,p⟩ :: r) j tm hp es=goV C K b d r j tm hp es [] (flV ag o n (evT tm x))) ∧
  (∀ C K b r j tm hp es (d p:Nat) (x:A),go C K b (⟨some d,.nilc x,none,p⟩ :: r) j tm hp es=goV C K b d r j tm hp es [] (zty (evT tm x))) ∧
  (∀ C K b r j tm hp es (d p:Nat) (k:IntKind) (x:A),go C K b (⟨some d,.conv k x,none,p⟩ :: r) j tm hp es=goV C K b d r j tm hp es [] (z7d k (evT tm x))) ∧
  (∀ C K b r j tm hp es (d p i:Nat) (x:A),go C K b (⟨some d,.ext x i,none,p⟩ :: r) j tm hp es=goV C K b d r j tm hp es [] (Zh6 i (evT tm x))) ∧
  (∀ C K b r j tm hp es (d p:Nat) (ag:Bool) (n:Nat) (x:A),go C K b (⟨some d,.ld ag n x,none,p⟩ :: r) j tm hp es=goV C K b d r j tm hp es (ze4 (evT tm x)) (ldT ag n hp (evT tm x))) ∧
  (∀ C K b r j tm hp es (dst:Option Nat) (p n:Nat) (x y:A),go C K b (⟨dst,.st n x y,none,p⟩ :: r) j tm hp es=goH C K b dst r j tm es (ze4 (evT tm x)) (stT n hp (evT tm x) (evT tm y))) ∧
  (∀ C K b r j tm hp es (d p sz:Nat) (x y:A),go C K b (⟨some d,.ia sz x y,none,p⟩ :: r) j tm hp es=goV C K b d r j tm hp es (zb8 (evT tm x)) (iaT sz hp (evT tm x) (evT tm y))) ∧
  (∀ C K b r j tm hp es (d p:Nat) (x:A),go C K b (⟨some d,.box x,none,p⟩ :: r) j tm hp es=goB C K b d r j tm hp es (evT tm x).cel) ∧
  (∀ C K b r j tm hp es (d p:Nat) (z:V),go C K b (⟨some d,.zero z,none,p⟩ :: r) j tm hp es=go C K b r (j + 1) ((d,.ptr (b + j) 0) :: tm) (hp.set (b + j) (some (.box z.cells))) (⟨[],false,b + j,1⟩ :: es)) ∧
  (∀ C K b r j tm hp es (d p:Nat) (x:A),go C K b (⟨some d,.len 0 x,none,p⟩ :: r) j tm hp es=Zeo C K b d r j tm hp es x (evT tm x)) ∧
  (∀ C K b r j tm hp es (d p:Nat) (x:A),go C K b (⟨some d,.len 1 x,none,p⟩ :: r) j tm hp es=Zkc C K b d r j tm hp es x (evT tm x)) ∧
  (∀ C K b r j tm hp es (d p:Nat) (z:List V) (ps:List (Nat × Nat × A)),go C K b (⟨some d,.build z ps,none,p⟩ :: r) j tm hp es=goV C K b d r j tm hp es [] (zys (zjv z (evP tm ps)))) ∧
  (∀ C K b r j tm hp es (d p sz n:Nat) (z:List D) (ps:List (Nat × A)),go C K b (⟨some d,.bsl sz n z ps,none,p⟩ :: r) j tm hp es=goT C K b d sz r j tm hp es (zjw sz (List.replicate n z) (evI tm ps))) ∧
  (∀ C K b r j tm hp es (dst:Option Nat) (p key res:Nat) (as:List A) (fz:Bool),go C K b (⟨dst,.call key as res fz,none,p⟩ :: r) j tm hp es=zlq C K b dst res r j tm hp es (zrv (zbw (zr6 fz) C) (zbk hp) key res (b + j) (V.handAll (evL tm as)))) ∧
  (∀ C K b r j tm hp es (dst:Option Nat) (p res:Nat) (f:A) (as:List A) (fz:Bool),go C K b (⟨dst,.callv f as res fz,none,p⟩ :: r) j tm hp es=zqc C K b dst res fz r j tm hp es (zi2 (evT tm f) (evL tm as))) ∧
  (∀ C K b r j tm hp es (dst:Option Nat) (op:Cop) (p t:Nat) (want:Bool),go C K b (⟨dst,op,some (t,want),p⟩ :: r) j tm hp es=goG C K b dst op p r j tm hp es (gd want (zba tm t))) ∧
  (∀ C K b r j tm hp es (d:Nat) (ids:List Nat) (v:V),goV C K b d r j tm hp es ids (some v)=go C K b r j ((d,v) :: tm) hp (⟨ids,false,b + j,0⟩ :: es)) ∧
  (∀ C K b r j tm hp es (dst:Option Nat) (ids:List Nat),goH C K b dst r j tm es ids (some hp)=go C K b r j (zyq dst .undef tm) hp (⟨ids,true,b + j,0⟩ :: es)) ∧
  (∀ C K b r j tm hp es (d:Nat) (c:List V),goB C K b d r j tm hp es (some c)=go C K b r (j + 1) ((d,.ptr (b + j) 0) :: tm) (hp.set (b + j) (some (.box c))) (⟨[],false,b + j,1⟩ :: es)) ∧
  (∀ C K b r j tm hp es (d sz:Nat) (xs:List (List D)),goT C K b d sz r j tm hp es (some xs)=go C K b r (j + 1) ((d,.own (b + j) 0 sz xs) :: tm) (hp.set (b + j) (some (.tok 0 sz))) (⟨[],false,b + j,1⟩ :: es)) ∧
  (∀ C K b r j tm hp es (dst:Option Nat) (op:Cop) (p:Nat),goG C K b dst op p r j tm hp es (some true)=go C K b (⟨dst,op,none,p⟩ :: r) j tm hp es) ∧
  (∀ C K b r j tm hp es (dst:Option Nat) (op:Cop) (p:Nat),goG C K b dst op p r j tm hp es (some false)=go C K b r (j + op.nmk) (zyq dst .undef tm) hp (⟨[],false,b + j,0⟩ :: es)) ∧
  (∀ C K b r j tm hp es (dst:Option Nat) (n:Nat) (v:V) (is:List Nat) (os ns:List (Option Obj)),zlq C K b dst n r j tm hp es (some (v,is,os,ns))=go C K b r (j + n) (zyq dst v tm) (za6 (za6 hp is os) (List.range' (b + j) ns.length) ns) (⟨is,true,b + j,ns.length⟩ :: es)) ∧
  (∀ C K b r j tm hp es (dst:Option Nat) (res:Nat) (fz:Bool) (key:Nat) (as:List V),zqc C K b dst res fz r j tm hp es (some (key,as))=zlq C K b dst res r j tm hp es (zrv (zbw (zr6 fz) C) (zbk hp) key res (b + j) (V.handAll as))) ∧
  (∀ C K b r j tm hp es (d sz:Nat) (xs:List (List D)) (x:A),Zeo C K b d r j tm hp es x (.d (.l sz xs))=go C K b r j ((d,.d (.i .i64 (xs.length:Int))) :: tm) hp (⟨[],false,b + j,0⟩ :: es)) ∧
  (∀ C K b r j tm hp es (d sz:Nat) (xs:List (List D)) (id ver:Nat) (x:A),Zeo C K b d r j tm hp es x (.own id ver sz xs)=go C K b r j ((d,.d (.i .i64 (xs.length:Int))) :: tm) hp (⟨[],false,b + j,0⟩ :: es)) ∧
  (∀ C K b r j tm hp es (d sz:Nat) (x:A),Zeo C K b d r j tm hp es x (.nil sz)=go C K b r j ((d,.d (.i .i64 (0:Int))) :: tm) hp (⟨[],false,b + j,0⟩ :: es)) ∧
  (∀ C K b r j tm hp es (d:Nat) (id ver off n:Nat) (x:A),Zeo C K b d r j tm hp es x (.arr id ver off n)=go C K b r j ((d,.d (.i .i64 (n:Int))) :: tm) hp (⟨[],false,b + j,0⟩ :: es)) ∧
  (∀ C K b r j tm hp es (d:Nat) (x:A) (t:List UInt8),Zkc C K b d r j tm hp es x (.d (.s t))=go C K b r j ((d,.d (.i .i64 t.length)) :: tm) hp (⟨[],false,b + j,0⟩ :: es)) ∧
  (∀ C K b r j tm hp es (d p sz bytes:Nat) (x y:A),go C K b (⟨some d,.app sz bytes x y,none,p⟩ :: r) j tm hp es=goA C K b d sz bytes r j tm hp es (evT tm x) (ze5 sz (evT tm y))) ∧
  (∀ C K b r j tm hp es (d sz bytes sz':Nat) (ys:List (List D)),goA C K b d sz bytes r j tm hp es (.nil sz') (some ys)=(zbi ys.length bytes=true∧go C K b r (j + 1) ((d,.own (b + j) 0 sz ys) :: tm) (hp.set (b + j) (some (.tok 0 sz))) (⟨[],true,b + j,1⟩ :: es))) ∧
  (∀ C K b r j tm hp es (d sz bytes id ver sz':Nat) (xs ys:List (List D)),goA C K b d sz bytes r j tm hp es (.own id ver sz' xs) (some ys)=Zh7 C K b d sz bytes r j tm hp es id ver sz' xs ys (zbk hp id)) ∧
  (∀ C K b r j tm hp es (d sz bytes id ver sz' v s:Nat) (xs ys:List (List D)),Zh7 C K b d sz bytes r j tm hp es id ver sz' xs ys (some (.tok v s))=((ver=v∧sz'=sz∧s=sz∧zbi (xs.length + ys.length) bytes=true)∧go C K b r (j + 1) ((d,.own id (ver + 1) sz (xs++ys)) :: tm) (hp.set id (some (.tok (ver + 1) sz))) (⟨[id],true,b + j,0⟩ :: es))) ∧
  (∀ C K b r j tm hp es (d p sz:Nat) (x:A),go C K b (⟨some d,.slc sz x none none,none,p⟩ :: r) j tm hp es=goV C K b d r j tm hp es (zb8 (evT tm x)) (zon sz hp (evT tm x) none none)) ∧
  (∀ C K b r j tm hp es (d p sz:Nat) (x lo:A),go C K b (⟨some d,.slc sz x (some lo) none,none,p⟩ :: r) j tm hp es=goV C K b d r j tm hp es (zb8 (evT tm x)) (zon sz hp (evT tm x) (some (evT tm lo)) none)) ∧
  (∀ C K b r j tm hp es (d p sz:Nat) (x hi:A),go C K b (⟨some d,.slc sz x none (some hi),none,p⟩ :: r) j tm hp es=goV C K b d r j tm hp es (zb8 (evT tm x)) (zon sz hp (evT tm x) none (some (evT tm hi)))) ∧
  (∀ C K b r j tm hp es (d p sz:Nat) (x lo hi:A),go C K b (⟨some d,.slc sz x (some lo) (some hi),none,p⟩ :: r) j tm hp es=goV C K b d r j tm hp es (zb8 (evT tm x)) (zon sz hp (evT tm x) (some (evT tm lo)) (some (evT tm hi)))) ∧
  (∀ C K b r j tm hp es (d p:Nat) (neg:Bool) (x y:A),go C K b (⟨some d,.eqb neg x y,none,p⟩ :: r) j tm hp es=goV C K b d r j tm hp es [] (Zap neg (evT tm x) (evT tm y))) ∧
  (∀ C K b r j tm hp es (d p:Nat) (neg:Bool) (x:A),go C K b (⟨some d,.nils neg x,none,p⟩ :: r) j tm hp es=goV C K b d r j tm hp es [] (ztz neg (evT tm x))) ∧
  (∀ C K b r j tm hp es (d p:Nat) (x y:A),go C K b (⟨some d,.ixs x y,none,p⟩ :: r) j tm hp es=goV C K b d r j tm hp es [] (Zh9 (evT tm x) (evT tm y))) ∧
  (∀ C K b r j tm hp es (d p:Nat) (x lo:A),go C K b (⟨some d,.sls x (some lo) none,none,p⟩ :: r) j tm hp es=goV C K b d r j tm hp es [] (z1t (some (evT tm lo)) none (evT tm x))) ∧
  (∀ C K b r j tm hp es (d p:Nat) (x hi:A),go C K b (⟨some d,.sls x none (some hi),none,p⟩ :: r) j tm hp es=goV C K b d r j tm hp es [] (z1t none (some (evT tm hi)) (evT tm x))) ∧
  (∀ C K b r j tm hp es (d p:Nat) (x lo hi:A),go C K b (⟨some d,.sls x (some lo) (some hi),none,p⟩ :: r) j tm hp es=goV C K b d r j tm hp es [] (z1t (some (evT tm lo)) (some (evT tm hi)) (evT tm x))) ∧
  (∀ C K b r j tm hp es (d p:Nat) (x:A),go C K b (⟨some d,.bts x,none,p⟩ :: r) j tm hp es=goV C K b d r j tm hp es [] (Zi7 (zjx (evT tm x)))) ∧
  (∀ C K b r j tm hp es (d p sz bytes:Nat) (z:List D) (ow:Bool) (x y:A),go C K b (⟨some d,.mks sz bytes z ow x y,none,p⟩ :: r) j tm hp es=goN C K b d r j tm hp es (Zel sz bytes (b + j) z ow (evT tm x) (evT tm y))) ∧
  (∀ C K b r j tm hp es (d:Nat) (v:V) (o:Obj),goN C K b d r j tm hp es (some (v,o))=go C K b r (j + 1) ((d,v) :: tm) (hp.set (b + j) (some o)) (⟨[],false,b + j,1⟩ :: es)):=by
 refine ⟨?_, ?_, ?_, ?_, ?_, ?_, ?_, ?_, ?_, ?_, ?_, ?_, ?_, ?_, ?_, ?_, ?_, ?_, ?_, ?_, ?_, ?_, ?_, ?_, ?_, ?_, ?_, ?_, ?_, ?_, ?_, ?_, ?_, ?_, ?_, ?_, ?_, ?_, ?_, ?_, ?_, ?_, ?_, ?_, ?_, ?_, ?_, ?_, ?_, ?_, ?_, ?_⟩
 ·intro C K b j tm hp es; exact rfl
 ·intro C K b r j tm hp es d p x; exact Zix ..
 ·intro C K b r j tm hp es d p op x y; exact Zea ..
 ·intro C K b r j tm hp es d p op x; exact Ziy ..
 ·intro C K b r j tm hp es d p x y z; exact z7b ..
 ·intro C K b r j tm hp es d p o x; exact Ziz ..
 ·intro C K b r j tm hp es d p ag o n x; exact Zi0 ..
 ·intro C K b r j tm hp es d p x; exact z7c ..
 ·intro C K b r j tm hp es d p k x; exact z7e ..
 ·intro C K b r j tm hp es d p i x; exact Zeb ..
 ·intro C K b r j tm hp es d p ag n x; exact Zi1 ..
 ·intro C K b r j tm hp es dst p n x y; exact Zi2 ..
 ·intro C K b r j tm hp es d p sz x y; exact Zi3 ..
 ·intro C K b r j tm hp es d p x; exact Zed ..
 ·intro C K b r j tm hp es d p z; exact z7f ..
 ·intro C K b r j tm hp es d p x; exact z7g ..
 ·intro C K b r j tm hp es d p x; exact z7h ..
 ·intro C K b r j tm hp es d p z ps; exact z2b ..
 ·intro C K b r j tm hp es d p sz n z ps; exact Zee ..
 ·intro C K b r j tm hp es dst p key res as fz; rw [zjt]; exact z69 ..
 ·intro C K b r j tm hp es dst p res f as fz; rw [zjt]; exact z2a ..
 ·intro C K b r j tm hp es dst op p t want; exact z18 ..
 ·intro C K b r j tm hp es d ids v; exact rfl
 ·intro C K b r j tm hp es dst ids; exact rfl
 ·intro C K b r j tm hp es d c; exact rfl
 ·intro C K b r j tm hp es d sz xs; exact rfl
 ·intro C K b r j tm hp es dst op p; exact rfl
 ·intro C K b r j tm hp es dst op p; exact rfl
 ·intro C K b r j tm hp es dst n v is os ns; exact rfl
 ·intro C K b r j tm hp es dst res fz key as; exact rfl
 ·intro C K b r j tm hp es d sz xs x; exact rfl
 ·intro C K b r j tm hp es d sz xs id ver x; exact rfl
 ·intro C K b r j tm hp es d sz x; exact rfl
 ·intro C K b r j tm hp es d id ver off n x; exact rfl
 ·intro C K b r j tm hp es d x t; exact rfl
 ·intro C K b r j tm hp es d p sz bytes x y; exact Zef ..
 ·intro C K b r j tm hp es d sz bytes sz' ys; exact rfl
 ·intro C K b r j tm hp es d sz bytes id ver sz' xs ys; exact rfl
 ·intro C K b r j tm hp es d sz bytes id ver sz' v s xs ys; exact rfl
 ·intro C K b r j tm hp es d p sz x; exact z2e ..
 ·intro C K b r j tm hp es d p sz x lo; exact z2f ..
 ·intro C K b r j tm hp es d p sz x hi; exact z2g ..
 ·intro C K b r j tm hp es d p sz x lo hi; exact z2h ..
 ·intro C K b r j tm hp es d p neg x y; exact Zeh ..
 ·intro C K b r j tm hp es d p neg x; exact z7k ..
 ·intro C K b r j tm hp es d p x y; exact Zei ..
 ·intro C K b r j tm hp es d p x lo; exact z2i ..
 ·intro C K b r j tm hp es d p x hi; exact z2j ..
 ·intro C K b r j tm hp es d p x lo hi; exact z2k ..
 ·intro C K b r j tm hp es d p x; exact Zej ..
 ·intro C K b r j tm hp es d p sz bytes z ow x y; exact Zem ..
 ·intro C K b r j tm hp es d v o; exact rfl
theorem evX :
  (∀ (tm:List (Nat × V)) (i:Nat),evT tm (.t i)=zba tm i) ∧
  (∀ (tm:List (Nat × V)) (x:V),evT tm (.k x)=x) ∧
  (∀ (i:Nat) (x:V) (tm:List (Nat × V)) (k:Nat),zba ((i,x) :: tm) k=if i=k then x else zba tm k) ∧
  (∀ (tm:List (Nat × V)),evL tm []=[]) ∧
  (∀ (tm:List (Nat × V)) (a:A) (r:List A),evL tm (a :: r)=evT tm a :: evL tm r) ∧
  (∀ (tm:List (Nat × V)),evP tm []=[]) ∧
  (∀ (tm:List (Nat × V)) (o n:Nat) (a:A) (r:List (Nat × Nat × A)),evP tm ((o,n,a) :: r)=(o,n,evT tm a) :: evP tm r) ∧
  (∀ (tm:List (Nat × V)),evI tm []=[]) ∧
  (∀ (tm:List (Nat × V)) (o:Nat) (a:A) (r:List (Nat × A)),evI tm ((o,a) :: r)=(o,evT tm a) :: evI tm r) ∧
  (∀ (x:V) (tm:List (Nat × V)) (d:Nat),zyq (some d) x tm=(d,x) :: tm) ∧
  (∀ (x:V) (tm:List (Nat × V)),zyq none x tm=tm) ∧
  (∀ (x w:Bool),gd w (.d (.b x))=some (x == w)) ∧
  (∀ (w:Bool),gd w (.tup [])=some false) ∧
  (∀ (w:Bool),gd w V.undef=some false) ∧
  (∀ (x:D),oD (some x)=some (.d x)) ∧
  (∀ (x y:Bool),Zap false (.d (.b x)) (.d (.b y))=some (.d (.b (decide (x=y))))) ∧
  (∀ (x y:Bool),Zap true (.d (.b x)) (.d (.b y))=some (.d (.b (decide (¬ x=y))))) ∧
  (∀ (n:Nat),ztz false (.nil n)=some (.d (.b true))) ∧
  (∀ (n:Nat),ztz true (.nil n)=some (.d (.b false))) ∧
  (∀ (n:Nat) (x:List D) (r:List (List D)),ztz false (.d (.l n (x :: r)))=some (.d (.b false))) ∧
  (∀ (n:Nat) (x:List D) (r:List (List D)),ztz true (.d (.l n (x :: r)))=some (.d (.b true))) ∧
  (∀ (x:List UInt8) (k:IntKind) (i:Int),Zh9 (.d (.s x)) (.d (.i k i))=if 0 ≤ i then ixO x[i.toNat]? else none) ∧
  (∀ (c:UInt8),ixO (some c)=some (.d (.i .u8 c.toNat))) ∧
  (∀ (lo hi:Option V) (x:List UInt8),z1t lo hi (.d (.s x))=Zi6 x (zbr lo hi x.length)) ∧
  (∀ (x:List UInt8) (l h:Nat),Zi6 x (some (l,h))=some (.d (.s ((x.take h).drop l)))) ∧
  (∀ (b:List UInt8),Zi7 (some b)=some (.d (.s b))) ∧
  (∀ (xs:List (List D)),zjx (.d (.l 1 xs))=zd0 xs) ∧
  (∀ (id ver:Nat) (xs:List (List D)),zjx (.own id ver 1 xs)=zd0 xs) ∧
  (∀ (n:Nat),zjx (.nil n)=some []) ∧
  (zd0 []=some []) ∧
  (∀ (n:Int) (r:List (List D)),zd0 ([.i .u8 n] :: r)=Zi8 n (zd0 r)) ∧
  (∀ (n:Int) (b:List UInt8),Zi8 n (some b)=some (UInt8.ofNat n.toNat :: b)) ∧
  (∀ (sz bytes fresh:Nat) (z:List D) (k k':IntKind) (l c:Int),Zel sz bytes fresh z true (.d (.i k l)) (.d (.i k' c))=if 0 ≤ l∧l ≤ c∧zbi c.toNat bytes=true then some (.own fresh 0 sz (Zek l.toNat z),.tok 0 sz) else none) ∧
  (∀ (n:Nat),zd0 (Zek n [.i .u8 0])=some (Zi9 n)) ∧
  (∀ (k:IntKind) (x y:Int),binOp .add (.d (.i k x)) (.d (.i k y))=some (.i k (k.wrap (x + y)))) ∧
  (∀ (k:IntKind) (x y:Int),binOp .sub (.d (.i k x)) (.d (.i k y))=some (.i k (k.wrap (x - y)))) ∧
  (∀ (k:IntKind) (x y:Int),binOp .mul (.d (.i k x)) (.d (.i k y))=some (.i k (k.wrap (x * y)))) ∧
  (∀ (k:IntKind) (x y:Int),binOp .quo (.d (.i k x)) (.d (.i k y))=if y=0 then none else some (.i k (k.wrap (x.tdiv y)))) ∧
  (∀ (k:IntKind) (x y:Int),binOp .rem (.d (.i k x)) (.d (.i k y))=if y=0 then none else some (.i k (x.tmod y))) ∧
  (∀ (k:IntKind) (x y:Int),binOp .eql (.d (.i k x)) (.d (.i k y))=some (.b (decide (x=y)))) ∧
  (∀ (k:IntKind) (x y:Int),binOp .neq (.d (.i k x)) (.d (.i k y))=some (.b (decide (¬ x=y)))) ∧
  (∀ (k:IntKind) (x y:Int),binOp .lss (.d (.i k x)) (.d (.i k y))=some (.b (decide (x < y)))) ∧
  (∀ (k:IntKind) (x y:Int),binOp .leq (.d (.i k x)) (.d (.i k y))=some (.b (decide (x ≤ y)))) ∧
  (∀ (k:IntKind) (x y:Int),binOp .gtr (.d (.i k x)) (.d (.i k y))=some (.b (decide (y < x)))) ∧
  (∀ (k:IntKind) (x y:Int),binOp .geq (.d (.i k x)) (.d (.i k y))=some (.b (decide (y ≤ x)))) ∧
  (∀ (x y:List UInt8),binOp .eql (.d (.s x)) (.d (.s y))=some (.b (decide (x=y)))) ∧
  (∀ (x y:List UInt8),binOp .neq (.d (.s x)) (.d (.s y))=some (.b (decide (¬ x=y)))) ∧
  (∀ (x y:List UInt8),binOp .lss (.d (.s x)) (.d (.s y))=some (.b (bytesLess x y))) ∧
  (∀ (x y:List UInt8),binOp .leq (.d (.s x)) (.d (.s y))=some (.b (bytesLess x y || x == y))) ∧
  (∀ (x y:List UInt8),binOp .gtr (.d (.s x)) (.d (.s y))=some (.b (!(bytesLess x y || x == y)))) ∧
  (∀ (x y:List UInt8),binOp .geq (.d (.s x)) (.d (.s y))=some (.b (!bytesLess x y))) ∧
  (∀ (x y:List UInt8),binOp .add (.d (.s x)) (.d (.s y))=if x.length + y.length ≤ 4611686018427387904 then some (.s (x++y)) else none) ∧
  (∀ (x:Bool),unOp .not (.d (.b x))=some (.b (!x))) ∧
  (∀ (k:IntKind) (x:Int),unOp .neg (.d (.i k x))=some (.i k (k.wrap (-x)))) ∧
  (∀ (c:Bool) (x y:V),z7a (.d (.b c)) x y=some (if c then x else y)) ∧
  (∀ (o id q:Nat),faV o (.ptr id q)=some (.ptr id (q + o))) ∧
  (∀ (o id ver idx q:Nat),faV o (.pm id ver idx q)=some (.pm id ver idx (q + o))) ∧
  (∀ (o:Nat) (ds:List D) (q:Nat),faV o (.d (.q ds q))=some (.d (.q ds (q + o)))) ∧
  (∀ (ag:Bool) (o n:Nat) (cs:List V),flV ag o n (.agg cs)=asO ag n (zby cs o n)) ∧
  (∀ (id q:Nat),zty (.ptr id q)=some (.ptr id q)) ∧
  (∀ (id ver idx q:Nat),zty (.pm id ver idx q)=some (.pm id ver idx q)) ∧
  (∀ (ds:List D) (q:Nat),zty (.d (.q ds q))=some (.d (.q ds q))) ∧
  (∀ (k:Nat) (a c:List D),zty (.d (.f k a c))=some (.d (.f k a c))) ∧
  (∀ (k:Nat) (a c:List V),zty (.fn k a c)=some (.fn k a c)) ∧
  (∀ (k k':IntKind) (n:Int),z7d k (.d (.i k' n))=some (.d (.i k (k.wrap n)))) ∧
  (∀ (i:Nat) (ws:List V),Zh6 i (.tup ws)=ws[i]?) ∧
  (∀ (x:V),asO false 1 (some [x])=some x) ∧
  (∀ (n:Nat) (cs:List V),asO true n (some cs)=if cs.length=n then some (.agg cs) else none) ∧
  (∀ (cs:List V),zby cs 0 cs.length=some cs) ∧
  (∀ (x:V) (r:List V),zby (x :: r) 0 1=some [x]) ∧
  (∀ (x:V) (r:List V) (o n:Nat),zby (x :: r) (o + 1) n=zby r o n) ∧
  (∀ (x y:V) (r:List V),zby (x :: y :: r) 0 2=some [x,y]) ∧
  (∀ (x y z:V) (r:List V),zby (x :: y :: z :: r) 0 3=some [x,y,z]) ∧
  (∀ (x y z u:V) (r:List V),zby (x :: y :: z :: u :: r) 0 4=some [x,y,z,u]) ∧
  (ofDs []=[]) ∧
  (∀ (x:D) (r:List D),ofDs (x :: r) = .d x :: ofDs r) ∧
  (∀ (hp:List (Option Obj)) (ag:Bool) (n id off:Nat),ldT ag n hp (.ptr id off)=ldO ag n off (zbk hp id)) ∧
  (∀ (hp:List (Option Obj)) (ag:Bool) (n:Nat) (ds:List D) (off:Nat),ldT ag n hp (.d (.q ds off))=asO ag n (zby (ofDs ds) off n)) ∧
  (∀ (hp:List (Option Obj)) (ag:Bool) (n id ver idx off:Nat),ldT ag n hp (.pm id ver idx off)=ldA ag n ver idx off (zbk hp id)) ∧
  (∀ (ag:Bool) (n off:Nat) (cs:List V),ldO ag n off (some (.box cs))=asO ag n (zby cs off n)) ∧
  (∀ (ag:Bool) (n off:Nat) (cs:List D),ldO ag n off (some (.cst cs))=asO ag n (zby (ofDs cs) off n)) ∧
  (∀ (ag:Bool) (n ver idx off sz:Nat) (xs:List (List V)),ldA ag n ver idx off (some (.arr ver sz xs))=ldR ag n off xs[idx]?) ∧
  (∀ (ag:Bool) (n off:Nat) (row:List V),ldR ag n off (some row)=asO ag n (zby row off n)) ∧
  (∀ (o:Option Obj) (r:List (Option Obj)),zbk (o :: r) 0=o) ∧
  (∀ (o:Option Obj) (r:List (Option Obj)) (i:Nat),zbk (o :: r) (i + 1)=zbk r i) ∧
  (∀ (id off:Nat),ze4 (.ptr id off)=[id]) ∧
  (∀ (id ver idx off:Nat),ze4 (.pm id ver idx off)=[id]) ∧
  (∀ (x:D),ze4 (.d x)=[]) ∧
  (∀ (hp:List (Option Obj)) (n id off:Nat) (x:V),stT n hp (.ptr id off) x=stO n id off hp x.cel (zbk hp id)) ∧
  (∀ (hp:List (Option Obj)) (n id ver idx off:Nat) (x:V),stT n hp (.pm id ver idx off) x=stA n id ver idx off hp x.cel (zbk hp id)) ∧
  (∀ (hp:List (Option Obj)) (n id off:Nat) (c cs:List V),stO n id off hp (some c) (some (.box cs))=if c.length=n then Zkd hp id (over cs off c) else none) ∧
  (∀ (hp:List (Option Obj)) (id:Nat) (cs:List V),Zkd hp id (some cs)=some (hp.set id (some (.box cs)))) ∧
  (∀ (cs c:List V) (off:Nat),over cs off c=if off + c.length ≤ cs.length then some (cs.take off++c++cs.drop (off + c.length)) else none) ∧
  (∀ (id ver off len:Nat),zb8 (.arr id ver off len)=[id]) ∧
  (∀ (x:D),zb8 (.d x)=[]) ∧
  (∀ (id ver sz:Nat) (xs:List (List D)),zb8 (.own id ver sz xs)=[]) ∧
  (∀ (hp:List (Option Obj)) (sz:Nat) (xs:List (List D)) (k:IntKind) (i:Int),iaT sz hp (.d (.l sz xs)) (.d (.i k i))=if 0 ≤ i then Zec xs[i.toNat]? else none) ∧
  (∀ (hp:List (Option Obj)) (id ver sz:Nat) (xs:List (List D)) (k:IntKind) (i:Int),iaT sz hp (.own id ver sz xs) (.d (.i k i))=if 0 ≤ i then Zec xs[i.toNat]? else none) ∧
  (∀ (hp:List (Option Obj)) (sz id ver off len:Nat) (k:IntKind) (i:Int),iaT sz hp (.arr id ver off len) (.d (.i k i))=iaO sz id ver off len i (zbk hp id)) ∧
  (∀ (sz id ver off len:Nat) (i:Int) (xs:List (List V)),iaO sz id ver off len i (some (.arr ver sz xs))=if 0 ≤ i∧i < len then some (.pm id ver (off + i.toNat) 0) else none) ∧
  (∀ (r:List D),Zec (some r)=some (.d (.q r 0))) ∧
  (∀ (cs:List V),V.cel (.agg cs)=some cs) ∧
  (∀ (x:D),V.cel (.d x)=some [.d x]) ∧
  (∀ (sz:Nat),V.cel (.nil sz)=some [.nil sz]) ∧
  (∀ (id ver sz:Nat) (xs:List (List D)),V.cel (.own id ver sz xs)=some [.own id ver sz xs]) ∧
  (∀ (id ver off len:Nat),V.cel (.arr id ver off len)=some [.arr id ver off len]) ∧
  (∀ (id off:Nat),V.cel (.ptr id off)=some [.ptr id off]) ∧
  (∀ (id:Nat),V.cel (.map id)=some [.map id]) ∧
  (∀ (k:Nat) (a c:List V),V.cel (.fn k a c)=some [.fn k a c]) ∧
  (∀ (cs:List V),V.cells (.agg cs)=cs) ∧
  (∀ (x:D),V.cells (.d x)=[.d x]) ∧
  (∀ (sz:Nat),V.cells (.nil sz)=[.nil sz]) ∧
  (∀ (id ver sz:Nat) (xs:List (List D)),V.cells (.own id ver sz xs)=[.own id ver sz xs]) ∧
  (∀ (cs:List V),zys (some cs)=some (.agg cs)) ∧
  (∀ (cs:List V),zjv cs []=some cs) ∧
  (∀ (cs:List V) (o n:Nat) (x:V) (r:List (Nat × Nat × V)),zjv cs ((o,n,x) :: r)=z7o cs o n x.cel r) ∧
  (∀ (cs c:List V) (o n:Nat) (r:List (Nat × Nat × V)),z7o cs o n (some c) r=if c.length=n then z7n (over cs o c) r else none) ∧
  (∀ (cs:List V) (r:List (Nat × Nat × V)),z7n (some cs) r=zjv cs r) ∧
  (∀ (sz:Nat) (xs:List (List D)),zjw sz xs []=some xs) ∧
  (∀ (sz:Nat) (xs:List (List D)) (i:Nat) (x:V) (r:List (Nat × V)),zjw sz xs ((i,x) :: r)=zyw sz xs i r (V.toDs x.cells)) ∧
  (∀ (sz:Nat) (xs:List (List D)) (i:Nat) (ds:List D) (r:List (Nat × V)),zyw sz xs i r (some ds)=if ds.length=sz∧i < xs.length then zjw sz (xs.set i ds) r else none) ∧
  (∀ (x:D),V.toD (.d x)=some x) ∧
  (∀ (sz:Nat),V.toD (.nil sz)=some (.l sz [])) ∧
  (∀ (id ver sz:Nat) (xs:List (List D)),V.toD (.own id ver sz xs)=some (.l sz xs)) ∧
  (V.toDs []=some []) ∧
  (∀ (x:V) (r:List V),V.toDs (x :: r)=Zep (V.toD x) (V.toDs r)) ∧
  (∀ (x:D) (r:List D),Zep (some x) (some r)=some (x :: r)) ∧
  (∀ (hp:List (Option Obj)) (sz:Nat) (xs:List (List D)) (lo hi:Option V),zon sz hp (.d (.l sz xs)) lo hi=Zi4 sz xs (zbr lo hi xs.length)) ∧
  (∀ (hp:List (Option Obj)) (id ver off len sz:Nat) (lo hi:Option V),zon sz hp (.arr id ver off len) lo hi=Zh8 sz id ver off (zbr lo hi len) (zbk hp id)) ∧
  (∀ (id ver off sz v l h:Nat) (xs:List (List V)),Zh8 sz id ver off (some (l,h)) (some (.arr v sz xs))=some (.arr id ver (off + l) (h - l))) ∧
  (∀ (hp:List (Option Obj)) (id ver sz:Nat) (xs:List (List D)) (lo hi:Option V),zon sz hp (.own id ver sz xs) lo hi=Zi5 id ver sz xs (zbr lo hi xs.length)) ∧
  (∀ (sz l h:Nat) (xs:List (List D)),Zi4 sz xs (some (l,h))=some (.d (.l sz ((xs.take h).drop l)))) ∧
  (∀ (id ver sz l h:Nat) (xs:List (List D)),Zi5 id ver sz xs (some (l,h))=if h=xs.length then some (.own id ver sz (xs.drop l)) else some (.d (.l sz ((xs.take h).drop l)))) ∧
  (∀ (n:Nat),zbr none none n=some (0,n)) ∧
  (∀ (n:Nat) (k:IntKind) (x:Int),zbr none (some (.d (.i k x))) n=if 0 ≤ x∧x ≤ n then some (0,x.toNat) else none) ∧
  (∀ (n:Nat) (k:IntKind) (x:Int),zbr (some (.d (.i k x))) none n=if 0 ≤ x∧x ≤ n then some (x.toNat,n) else none) ∧
  (∀ (n:Nat) (k k':IntKind) (x y:Int),zbr (some (.d (.i k x))) (some (.d (.i k' y))) n=if 0 ≤ x∧x ≤ y∧y ≤ n then some (x.toNat,y.toNat) else none) ∧
  (∀ (sz:Nat) (ys:List (List D)),ze5 sz (.d (.l sz ys))=some ys) ∧
  (∀ (id ver sz:Nat) (ys:List (List D)),ze5 sz (.own id ver sz ys)=some ys) ∧
  (∀ (sz s:Nat),ze5 sz (.nil s)=some []):=by
 refine ⟨?_, ?_, ?_, ?_, ?_, ?_, ?_, ?_, ?_, ?_, ?_, ?_, ?_, ?_, ?_, ?_, ?_, ?_, ?_, ?_, ?_, ?_, ?_, ?_, ?_, ?_, ?_, ?_, ?_, ?_, ?_, ?_, ?_, ?_, ?_, ?_, ?_, ?_, ?_, ?_, ?_, ?_, ?_, ?_, ?_, ?_, ?_, ?_, ?_, ?_, ?_, ?_, ?_, ?_, ?_, ?_, ?_, ?_, ?_, ?_, ?_, ?_, ?_, ?_, ?_, ?_, ?_, ?_, ?_, ?_, ?_, ?_, ?_, ?_, ?_, ?_, ?_, ?_, ?_, ?_, ?_, ?_, ?_, ?_, ?_, ?_, ?_, ?_, ?_, ?_, ?_, ?_, ?_, ?_, ?_, ?_, ?_, ?_, ?_, ?_, ?_, ?_, ?_, ?_, ?_, ?_, ?_, ?_, ?_, ?_, ?_, ?_, ?_, ?_, ?_, ?_, ?_, ?_, ?_, ?_, ?_, ?_, ?_, ?_, ?_, ?_, ?_, ?_, ?_, ?_, ?_, ?_, ?_, ?_, ?_, ?_, ?_, ?_, ?_, ?_⟩
 ·intro tm i; exact rfl
 ·intro tm x; exact rfl
 ·intro i x tm k; exact rfl
 ·intro tm; exact rfl
 ·intro tm a r; exact rfl
 ·intro tm; exact rfl
 ·intro tm o n a r; exact rfl
 ·intro tm; exact rfl
 ·intro tm o a r; exact rfl
 ·intro x tm d; exact rfl
 ·intro x tm; exact rfl
 ·intro x w; exact rfl
 ·intro w; exact rfl
 ·intro w; exact rfl
 ·intro x; exact rfl
 ·intro x y; exact z7i ..
 ·intro x y; exact z7j ..
 ·intro n; exact rfl
 ·intro n; exact rfl
 ·intro n x r; exact rfl
 ·intro n x r; exact rfl
 ·intro x k i; exact rfl
 ·intro c; exact rfl
 ·intro lo hi x; exact rfl
 ·intro x l h; exact rfl
 ·intro b; exact rfl
 ·intro xs; exact rfl
 ·intro id ver xs; exact rfl
 ·intro n; exact rfl
 ·exact rfl
 ·intro n r; exact zmz ..
 ·intro n b; exact rfl
 ·intro sz bytes fresh z k k' l c; simp [Zel,Zek]
 ·intro n; exact zo2 n
 ·intro k x y; simp [binOp,zc4,zfz]
 ·intro k x y; simp [binOp,zc4,zfz]
 ·intro k x y; simp [binOp,zc4,zfz]
 ·intro k x y; simp [binOp,zc4,zfz]
 ·intro k x y; simp [binOp,zc4,zfz]
 ·intro k x y; simp only [binOp,zc4,zfz,if_true,Qm,if_false]; by_cases h:x=y <;> simp [h]
 ·intro k x y; simp only [binOp,zc4,zfz,if_true,Qm,if_false]; by_cases h:x=y <;> simp [h]
 ·intro k x y; simp [binOp,zc4,zfz]
 ·intro k x y; simp [binOp,zc4,zfz]
 ·intro k x y; simp [binOp,zc4,zfz]
 ·intro k x y; simp [binOp,zc4,zfz]
 ·intro x y; simp only [binOp,zr4]; by_cases h:x=y <;> simp [h]
 ·intro x y; simp only [binOp,zr4]; by_cases h:x=y <;> simp [h]
 ·intro x y; exact rfl
 ·intro x y; exact rfl
 ·intro x y; exact rfl
 ·intro x y; exact rfl
 ·intro x y; exact rfl
 ·intro x; exact rfl
 ·intro k x; exact rfl
 ·intro c x y; exact rfl
 ·intro o id q; exact rfl
 ·intro o id ver idx q; exact rfl
 ·intro o ds q; exact rfl
 ·intro ag o n cs; exact rfl
 ·intro id q; exact rfl
 ·intro id ver idx q; exact rfl
 ·intro ds q; exact rfl
 ·intro k a c; exact rfl
 ·intro k a c; exact rfl
 ·intro k k' n; exact rfl
 ·intro i ws; exact rfl
 ·intro x; exact rfl
 ·intro n cs; exact rfl
 ·intro cs; simp [zby]
 ·intro x r; simp [zby]
 ·intro x r o n; simp [zby,Nat.add_right_comm]
 ·intro x y r; simp [zby]
 ·intro x y z r; simp [zby]
 ·intro x y z u r; simp [zby]
 ·exact rfl
 ·intro x r; exact rfl
 ·intro hp ag n id off; exact rfl
 ·intro hp ag n ds off; exact rfl
 ·intro hp ag n id ver idx off; exact rfl
 ·intro ag n off cs; exact rfl
 ·intro ag n off cs; exact rfl
 ·intro ag n ver idx off sz xs; simp [ldA]
 ·intro ag n off row; exact rfl
 ·intro o r; simp [zbk]
 ·intro o r i; simp [zbk]
 ·intro id off; exact rfl
 ·intro id ver idx off; exact rfl
 ·intro x; exact rfl
 ·intro hp n id off x; exact rfl
 ·intro hp n id ver idx off x; exact rfl
 ·intro hp n id off c cs; simp only [stO]; by_cases hc:c.length=n <;> simp only [hc,if_true,if_false] <;> cases over cs off c <;> rfl
 ·intro hp id cs; exact rfl
 ·intro cs c off; exact rfl
 ·intro id ver off len; exact rfl
 ·intro x; exact rfl
 ·intro id ver sz xs; exact rfl
 ·intro hp sz xs k i; simp [iaT]
 ·intro hp id ver sz xs k i; simp [iaT]
 ·intro hp sz id ver off len k i; exact rfl
 ·intro sz id ver off len i xs; simp [iaO]
 ·intro r; exact rfl
 ·intro cs; exact rfl
 ·intro x; exact rfl
 ·intro sz; exact rfl
 ·intro id ver sz xs; exact rfl
 ·intro id ver off len; exact rfl
 ·intro id off; exact rfl
 ·intro id; exact rfl
 ·intro k a c; exact rfl
 ·intro cs; exact rfl
 ·intro x; exact rfl
 ·intro sz; exact rfl
 ·intro id ver sz xs; exact rfl
 ·intro cs; exact rfl
 ·intro cs; exact rfl
 ·intro cs o n x r; exact rfl
 ·intro cs c o n r; simp only [z7o]
 ·intro cs r; exact rfl
 ·intro sz xs; exact rfl
 ·intro sz xs i x r; simp only [zjw,zyw]; cases V.toDs x.cells <;> rfl
 ·intro sz xs i ds r; exact rfl
 ·intro x; simp only [V.toD]
 ·intro sz; simp only [V.toD]
 ·intro id ver sz xs; simp only [V.toD]
 ·simp only [V.toDs]
 ·intro x r; simp only [V.toDs]; cases V.toD x <;> cases V.toDs r <;> rfl
 ·intro x r; exact rfl
 ·intro hp sz xs lo hi; exact Zeg ..
 ·intro hp id ver off len sz lo hi; exact z2d ..
 ·intro id ver off sz v l h xs; simp [Zh8]
 ·intro hp id ver sz xs lo hi; exact z2c ..
 ·intro sz l h xs; exact rfl
 ·intro id ver sz l h xs; exact rfl
 ·intro n; simp [zbr]
 ·intro n k x; simp [zbr]
 ·intro n k x; simp [zbr]
 ·intro n k k' x y; simp [zbr]
 ·intro sz ys; simp [ze5]
 ·intro id ver sz ys; simp [ze5]
 ·intro sz s; exact rfl
theorem evC :
  (V.handAll []=some []) ∧
  (∀ (x:V) (r:List V),V.handAll (x :: r)=z2u (V.hand x) (V.handAll r)) ∧
  (∀ (x:V) (r:List V),z2u (some x) (some r)=some (x :: r)) ∧
  (∀ (x:D),V.hand (.d x)=some (.d x)) ∧
  (∀ (sz:Nat),V.hand (.nil sz)=some (.d (.l sz []))) ∧
  (∀ (id ver sz:Nat) (xs:List (List D)),V.hand (.own id ver sz xs)=some (.d (.l sz xs))) ∧
  (∀ (cs:List V),V.hand (.agg cs)=Zke (V.handAll cs)) ∧
  (∀ (cs:List V),Zke (some cs)=some (.agg cs)) ∧
  (∀ (id ver off len:Nat),V.hand (.arr id ver off len)=some (.arr id ver off len)) ∧
  (∀ (id off:Nat),V.hand (.ptr id off)=some (.ptr id off)) ∧
  (∀ (id ver idx off:Nat),V.hand (.pm id ver idx off)=some (.pm id ver idx off)) ∧
  (∀ (id:Nat),V.hand (.map id)=some (.map id)) ∧
  (∀ (C:zbg) (obj:Nat→Option Obj) (key res fresh:Nat) (hs:List V),zrv C obj key res fresh (some hs)=Zh5 C obj key hs res fresh (zb5 obj far (V.refsAll hs) [])) ∧
  (∀ (C:zbg) (obj:Nat→Option Obj) (key res fresh:Nat) (hs:List V) (L:List Nat),Zh5 C obj key hs res fresh (some L)=Zh4 C key hs L res fresh (zbp (za4 L) zbs 0 (L.map obj))) ∧
  (∀ (C:zbg) (key res fresh:Nat) (hs:List V) (L:List Nat) (h:List (Option Obj)),Zh4 C key hs L res fresh (some h)=Ziw L h res fresh (C key (V.renAll (za4 L) zbs hs) h)) ∧
  (∀ (res fresh:Nat) (L:List Nat) (h h':List (Option Obj)) (x:V),Ziw L h res fresh (some (x,h'))=Zh3 L h res fresh x (zbp (bk L fresh) (shf L h) 0 h')) ∧
  (∀ (res fresh:Nat) (L:List Nat) (h os:List (Option Obj)) (x:V),Zh3 L h res fresh x (some os)=if L.length ≤ os.length∧os.length ≤ L.length + res then some (V.ren (bk L fresh) (shf L h) x,L,os.take L.length,os.drop L.length) else none) ∧
  (∀ (f:Nat) (obj:Nat→Option Obj) (done:List Nat),zb5 obj f [] done=some done) ∧
  (∀ (obj:Nat→Option Obj) (f i:Nat) (r done:List Nat),zb5 obj (f + 1) (i :: r) done=if done.contains i then zb5 obj f r done else zb5 obj f (r++Obj.refs (obj i)) (done++[i])) ∧
  (V.refsAll []=[]) ∧
  (∀ (x:V) (r:List V),V.refsAll (x :: r)=V.refs x++V.refsAll r) ∧
  (∀ (x:D),V.refs (.d x)=[]) ∧
  (∀ (sz:Nat),V.refs (.nil sz)=[]) ∧
  (∀ (id ver sz:Nat) (xs:List (List D)),V.refs (.own id ver sz xs)=[id]) ∧
  (∀ (id ver off len:Nat),V.refs (.arr id ver off len)=[id]) ∧
  (∀ (id off:Nat),V.refs (.ptr id off)=[id]) ∧
  (∀ (id ver idx off:Nat),V.refs (.pm id ver idx off)=[id]) ∧
  (∀ (id:Nat),V.refs (.map id)=[id]) ∧
  (∀ (cs:List V),V.refs (.agg cs)=V.refsAll cs) ∧
  (∀ (cs:List V),V.refs (.tup cs)=V.refsAll cs) ∧
  (∀ (k:Nat) (a c:List V),V.refs (.fn k a c)=V.refsAll a++V.refsAll c) ∧
  (∀ (cs:List V),Obj.refs (some (.box cs))=V.refsAll cs) ∧
  (∀ (cs:List D),Obj.refs (some (.cst cs))=[]) ∧
  (∀ (v sz:Nat),Obj.refs (some (.tok v sz))=[]) ∧
  (∀ (v sz:Nat) (xs:List (List V)),Obj.refs (some (.arr v sz xs))=zch xs) ∧
  (∀ (kvs:List (List D × V)),Obj.refs (some (.map kvs))=zm0 kvs) ∧
  (∀ (f sh:Nat→Nat),V.renAll f sh []=[]) ∧
  (∀ (f sh:Nat→Nat) (x:V) (r:List V),V.renAll f sh (x :: r)=V.ren f sh x :: V.renAll f sh r) ∧
  (∀ (f sh:Nat→Nat) (x:D),V.ren f sh (.d x) = .d x) ∧
  (∀ (f sh:Nat→Nat) (sz:Nat),V.ren f sh (.nil sz) = .nil sz) ∧
  (∀ (f sh:Nat→Nat) (cs:List V),V.ren f sh (.agg cs) = .agg (V.renAll f sh cs)) ∧
  (∀ (f sh:Nat→Nat) (cs:List V),V.ren f sh (.tup cs) = .tup (V.renAll f sh cs)) ∧
  (∀ (f sh:Nat→Nat) (id ver sz:Nat) (xs:List (List D)),V.ren f sh (.own id ver sz xs) = .own (f id) (ver + sh id) sz xs) ∧
  (∀ (f sh:Nat→Nat) (id ver off len:Nat),V.ren f sh (.arr id ver off len) = .arr (f id) ver off len) ∧
  (∀ (f sh:Nat→Nat) (id off:Nat),V.ren f sh (.ptr id off) = .ptr (f id) off) ∧
  (∀ (f sh:Nat→Nat) (id ver idx off:Nat),V.ren f sh (.pm id ver idx off) = .pm (f id) ver idx off) ∧
  (∀ (f sh:Nat→Nat) (id:Nat),V.ren f sh (.map id) = .map (f id)) ∧
  (∀ (f sh:Nat→Nat) (k:Nat) (a c:List V),V.ren f sh (.fn k a c) = .fn k (V.renAll f sh a) (V.renAll f sh c)) ∧
  (∀ (f sh:Nat→Nat) (i:Nat),zbp f sh i []=some []) ∧
  (∀ (f sh:Nat→Nat) (i:Nat) (o:Obj) (r:List (Option Obj)),zbp f sh i (some o :: r)=Zer (Obj.ren f sh (sh i) o) (zbp f sh (i + 1) r)) ∧
  (∀ (o:Obj) (r:List (Option Obj)),Zer o (some r)=some (some o :: r)) ∧
  (∀ (f sh:Nat→Nat) (s:Nat) (cs:List V),Obj.ren f sh s (.box cs) = .box (V.renAll f sh cs)) ∧
  (∀ (f sh:Nat→Nat) (s:Nat) (cs:List D),Obj.ren f sh s (.cst cs) = .cst cs) ∧
  (∀ (f sh:Nat→Nat) (s v sz:Nat),Obj.ren f sh s (.tok v sz) = .tok (v + s) sz) ∧
  (∀ (f sh:Nat→Nat) (s v sz:Nat) (xs:List (List V)),Obj.ren f sh s (.arr v sz xs) = .arr v sz (zdz f sh xs)) ∧
  (∀ (f sh:Nat→Nat) (s:Nat) (kvs:List (List D × V)),Obj.ren f sh s (.map kvs) = .map (zo3 f sh kvs)) ∧
  (∀ (i x:Nat) (r:List Nat),za4 (x :: r) i=if x=i then 0 else za4 r i + 1) ∧
  (∀ (i:Nat),zbs i=0) ∧
  (∀ (L:List Nat) (f i:Nat),bk L f i=if i < L.length then L.getD i 0 else f + (i - L.length)) ∧
  (∀ (L:List Nat) (h:List (Option Obj)) (i:Nat),shf L h i=if i < L.length then zoq (h.getD i none) else 0) ∧
  (∀ (v sz:Nat),zoq (some (.tok v sz))=v + 1) ∧
  (∀ (cs:List V),zoq (some (.box cs))=0) ∧
  (∀ (cs:List D),zoq (some (.cst cs))=0) ∧
  (∀ (v sz:Nat) (xs:List (List V)),zoq (some (.arr v sz xs))=0) ∧
  (∀ (kvs:List (List D × V)),zoq (some (.map kvs))=0) ∧
  (∀ (C:zbg) (key:Nat) (as:List V) (h:List (Option Obj)),zbw (zr6 true) C key as h=z68 h.length (C key as h)) ∧
  (∀ (C:zbg),zbw (zr6 false) C=C) ∧
  (∀ (m:Nat) (x:V) (h:List (Option Obj)),z68 m (some (x,h))=zyr m x h (zd1 m x)) ∧
  (∀ (m:Nat) (x:V) (h:List (Option Obj)),zyr m x h []=some (x,h)) ∧
  (∀ (m i:Nat) (is:List Nat) (x:V) (h:List (Option Obj)),zyr m x h (i :: is)=zde m x h) ∧
  (∀ (m:Nat) (x:D),zd1 m (.d x)=[]) ∧
  (∀ (m:Nat) (cs:List V),zd1 m (.agg cs)=zdj m cs) ∧
  (∀ (m:Nat) (cs:List V),zd1 m (.tup cs)=zet m cs) ∧
  (∀ (m:Nat),zet m []=[]) ∧
  (∀ (m:Nat) (x:V) (r:List V),zet m (x :: r)=zf0 m x++zet m r) ∧
  (∀ (m:Nat) (x:D),zf0 m (.d x)=[]) ∧
  (∀ (m:Nat) (cs:List V),zf0 m (.agg cs)=zdj m cs) ∧
  (∀ (m id off:Nat),zf0 m (.ptr id off)=[]) ∧
  (∀ (m id:Nat),zf0 m (.map id)=[]) ∧
  (∀ (m id ver off len:Nat),zf0 m (.arr id ver off len)=if m ≤ id then [id] else []) ∧
  (∀ (m id off:Nat),zd1 m (.ptr id off)=[]) ∧
  (∀ (m id:Nat),zd1 m (.map id)=[]) ∧
  (∀ (m k:Nat) (a c:List V),zd1 m (.fn k a c)=[]) ∧
  (∀ (m id ver off len:Nat),zd1 m (.arr id ver off len)=if m ≤ id then [id] else []) ∧
  (∀ (m:Nat),zdj m []=[]) ∧
  (∀ (m:Nat) (x:V) (r:List V),zdj m (x :: r)=V.arrIds m x++zdj m r) ∧
  (∀ (m:Nat) (x:D),V.arrIds m (.d x)=[]) ∧
  (∀ (m id off:Nat),V.arrIds m (.ptr id off)=[]) ∧
  (∀ (m id:Nat),V.arrIds m (.map id)=[]) ∧
  (∀ (m id ver off len:Nat),V.arrIds m (.arr id ver off len)=if m ≤ id then [id] else []) ∧
  (∀ (hp:List (Option Obj)) (os:List (Option Obj)),za6 hp [] os=hp) ∧
  (∀ (hp:List (Option Obj)) (is:List Nat),za6 hp is []=hp) ∧
  (∀ (hp:List (Option Obj)) (i:Nat) (is:List Nat) (o:Option Obj) (os:List (Option Obj)),za6 hp (i :: is) (o :: os)=za6 (hp.set i o) is os) ∧
  (∀ (k:Nat) (a c:List D) (as:List V),zi2 (.d (.f k a c)) as=some (k,ofDs a++as++ofDs c)) ∧
  (∀ (k:Nat) (c as:List V),zi2 (.fn k [] c) as=some (k,[]++as++c)) ∧
  (∀ (k id:Nat) (as:List V),zi2 (.fn k [.map id] []) as=some (k,.fn k [.map id] [] :: as)):=by
 refine ⟨?_, ?_, ?_, ?_, ?_, ?_, ?_, ?_, ?_, ?_, ?_, ?_, ?_, ?_, ?_, ?_, ?_, ?_, ?_, ?_, ?_, ?_, ?_, ?_, ?_, ?_, ?_, ?_, ?_, ?_, ?_, ?_, ?_, ?_, ?_, ?_, ?_, ?_, ?_, ?_, ?_, ?_, ?_, ?_, ?_, ?_, ?_, ?_, ?_, ?_, ?_, ?_, ?_, ?_, ?_, ?_, ?_, ?_, ?_, ?_, ?_, ?_, ?_, ?_, ?_, ?_, ?_, ?_, ?_, ?_, ?_, ?_, ?_, ?_, ?_, ?_, ?_, ?_, ?_, ?_, ?_, ?_, ?_, ?_, ?_, ?_, ?_, ?_, ?_, ?_, ?_, ?_, ?_, ?_, ?_, ?_⟩
 ·simp only [V.handAll]
 ·intro x r; simp only [V.handAll]; cases V.hand x <;> cases V.handAll r <;> rfl
 ·intro x r; exact rfl
 ·intro x; simp only [V.hand]
 ·intro sz; simp only [V.hand]
 ·intro id ver sz xs; simp only [V.hand]
 ·intro cs; simp only [V.hand]; cases V.handAll cs <;> rfl
 ·intro cs; exact rfl
 ·intro id ver off len; simp only [V.hand]
 ·intro id off; simp only [V.hand]
 ·intro id ver idx off; simp only [V.hand]
 ·intro id; simp only [V.hand]
 ·intro C obj key res fresh hs; exact rfl
 ·intro C obj key res fresh hs L; exact rfl
 ·intro C key res fresh hs L h; exact rfl
 ·intro res fresh L h h' x; exact rfl
 ·intro res fresh L h os x; exact rfl
 ·intro f obj done; simp only [zb5]
 ·intro obj f i r done; simp only [zb5]
 ·simp only [V.refsAll]
 ·intro x r; simp only [V.refsAll]
 ·intro x; simp only [V.refs]
 ·intro sz; simp only [V.refs]
 ·intro id ver sz xs; simp only [V.refs]
 ·intro id ver off len; simp only [V.refs]
 ·intro id off; simp only [V.refs]
 ·intro id ver idx off; simp only [V.refs]
 ·intro id; simp only [V.refs]
 ·intro cs; simp only [V.refs]
 ·intro cs; simp only [V.refs]
 ·intro k a c; simp only [V.refs]
 ·intro cs; exact rfl
 ·intro cs; exact rfl
 ·intro v sz; exact rfl
 ·intro v sz xs; exact rfl
 ·intro kvs; exact rfl
 ·intro f sh; simp only [V.renAll]
 ·intro f sh x r; simp only [V.renAll]
 ·intro f sh x; simp only [V.ren]
 ·intro f sh sz; simp only [V.ren]
 ·intro f sh cs; simp only [V.ren]
 ·intro f sh cs; simp only [V.ren]
 ·intro f sh id ver sz xs; simp only [V.ren]
 ·intro f sh id ver off len; simp only [V.ren]
 ·intro f sh id off; simp only [V.ren]
 ·intro f sh id ver idx off; simp only [V.ren]
 ·intro f sh id; simp only [V.ren]
 ·intro f sh k a c; simp only [V.ren]
 ·intro f sh i; exact rfl
 ·intro f sh i o r; simp only [zbp]; cases zbp f sh (i + 1) r <;> rfl
 ·intro o r; exact rfl
 ·intro f sh s cs; exact rfl
 ·intro f sh s cs; exact rfl
 ·intro f sh s v sz; exact rfl
 ·intro f sh s v sz xs; exact rfl
 ·intro f sh s kvs; exact rfl
 ·intro i x r; exact rfl
 ·intro i; exact rfl
 ·intro L f i; exact rfl
 ·intro L h i; exact rfl
 ·intro v sz; exact rfl
 ·intro cs; exact rfl
 ·intro cs; exact rfl
 ·intro v sz xs; exact rfl
 ·intro kvs; exact rfl
 ·intro C key as h; exact z19 ..
 ·intro C; exact rfl
 ·intro m x h; exact zk0 ..
 ·intro m x h; exact rfl
 ·intro m i is x h; exact rfl
 ·intro m x; exact rfl
 ·intro m cs; exact rfl
 ·intro m cs; exact rfl
 ·intro m; exact rfl
 ·intro m x r; exact rfl
 ·intro m x; exact rfl
 ·intro m cs; exact rfl
 ·intro m id off; exact rfl
 ·intro m id; exact rfl
 ·intro m id ver off len; exact rfl
 ·intro m id off; exact rfl
 ·intro m id; exact rfl
 ·intro m k a c; exact rfl
 ·intro m id ver off len; exact rfl
 ·intro m; exact rfl
 ·intro m x r; exact rfl
 ·intro m x; exact rfl
 ·intro m id off; exact rfl
 ·intro m id; exact rfl
 ·intro m id ver off len; exact rfl
 ·intro hp os; cases os <;> rfl
 ·intro hp is; cases is <;> rfl
 ·intro hp i is o os; exact rfl
 ·intro k a c as; exact rfl
 ·intro k c as; exact rfl
 ·intro k id as; exact rfl
theorem evR :
  (∀ tm hp (m:Nat) (rs:List Ret),zdw m ⟨tm,hp⟩ rs=zya m hp (zdv ⟨tm,hp⟩ rs)) ∧
  (∀ tm hp,zdv ⟨tm,hp⟩ []=some []) ∧
  (∀ tm hp (r:Ret) (rs:List Ret),zdv ⟨tm,hp⟩ (r :: rs)=z2u (z1x ⟨tm,hp⟩ r) (zdv ⟨tm,hp⟩ rs)) ∧
  (∀ tm hp (t:Nat),z1x ⟨tm,hp⟩ (.slot t)=V.hand (zba tm t)) ∧
  (∀ tm hp (t n:Nat) (ag:Bool),z1x ⟨tm,hp⟩ (.cell t ag n)=Zib ag n hp (zba tm t)) ∧
  (∀ (hp:List (Option Obj)) (ag:Bool) (n id off:Nat),Zib ag n hp (.ptr id off)=Zjb ag n off (zbk hp id)) ∧
  (∀ (ag:Bool) (n off:Nat) (cs:List V),Zjb ag n off (some (.box cs))=Zeq (asO ag n (zby cs off n))) ∧
  (∀ (x:V),Zeq (some x)=V.hand x) ∧
  (∀ (m:Nat) (hp:List (Option Obj)) (vs:List V),zya m hp (some vs)=Zia vs hp (zb5 (zbk hp) far (rng 0 m++V.refsAll vs) [])) ∧
  (∀ (hp:List (Option Obj)) (vs:List V) (L:List Nat),Zia vs hp (some L)=Zja vs L (zbp (za4 L) zbs 0 (L.map (zbk hp)))) ∧
  (∀ (vs:List V) (L:List Nat) (h:List (Option Obj)),Zja vs L (some h)=some (V.ren (za4 L) zbs (zf3 vs),h)) ∧
  (∀ (v:V),zf3 [v]=v) ∧
  (∀ (v u:V) (r:List V),zf3 (v :: u :: r) = .tup (v :: u :: r)) ∧
  (zf3 [] = .tup []) ∧
  (∀ (i:Nat),rng i 0=[]) ∧
  (∀ (i n:Nat),rng i (n + 1)=i :: rng (i + 1) n):=by
 refine ⟨?_, ?_, ?_, ?_, ?_, ?_, ?_, ?_, ?_, ?_, ?_, ?_, ?_, ?_, ?_, ?_⟩
 ·intro tm hp m rs; exact zh8 ..
 ·intro tm hp; exact rfl
 ·intro tm hp r rs; simp only [zdv]; cases z1x ⟨tm,hp⟩ r <;> cases zdv ⟨tm,hp⟩ rs <;> rfl
 ·intro tm hp t; exact rfl
 ·intro tm hp t n ag; simp only [z1x]; show (match zba tm t with | .ptr id off=>_ | _=>_)=_; unfold Zib; cases zba tm t <;> rfl
 ·intro hp ag n id off; simp only [Zib,Zjb]; show (match (zbk hp id) with | some (.box cs)=>_ | _=>_)=_; cases zbk hp id with | none=>rfl | some o=>(cases o with | box cs=>(simp only; cases zby cs off n with | none=>rfl | some c=>rfl) | _=>rfl)
 ·intro ag n off cs; exact rfl
 ·intro x; exact rfl
 ·intro m hp vs; exact rfl
 ·intro hp vs L; exact rfl
 ·intro vs L h; exact rfl
 ·intro v; exact rfl
 ·intro v u r; exact rfl
 ·exact rfl
 ·intro i; exact rfl
 ·intro i n; exact rfl
theorem evH :
  (∀ (k o:List Nat) (ob:List (Nat × Nat)) (da:List Nat) (db:List (Nat × Nat)) (tr:Bool) (s:St),enter ⟨k,o,ob,da,db,tr⟩ s=z2l k (zi4 db (zi3 da (zls ob (zlr o s))))) ∧
  (∀ (s:St),zi3 [] s=s) ∧
  (∀ (s:St) (t:Nat) (r:List Nat),zi3 (t :: r) s=zi3 r (zi7 s t)) ∧
  (∀ (s:St),zi4 [] s=s) ∧
  (∀ (s:St) (t:Nat × Nat) (r:List (Nat × Nat)),zi4 (t :: r) s=zi4 r (zit s t)) ∧
  (∀ tm hp (t:Nat),zi7 ⟨tm,hp⟩ t=⟨(t,z1v (zba tm t)) :: tm,hp⟩) ∧
  (∀ tm hp (t c:Nat),zit ⟨tm,hp⟩ (t,c)=z2n tm hp c (zba tm t)) ∧
  (∀ tm hp (c id off:Nat),z2n tm hp c (.ptr id off)=z2m tm hp id (off + c) (zbk hp id)) ∧
  (∀ tm hp (id k:Nat) (cs:List V),z2m tm hp id k (some (.box cs))=z7l tm hp id k cs cs[k]?) ∧
  (∀ tm hp (id k:Nat) (cs:List V) (v:V),z7l tm hp id k cs (some v)=⟨tm,hp.set id (some (.box (cs.set k (zr7 v))))⟩) ∧
  (∀ tm hp (t c:Nat),zd2 ⟨tm,hp⟩ (t,c)=zt1 tm hp t c (zba tm t)) ∧
  (∀ tm hp (t c id off:Nat),zt1 tm hp t c (.ptr id off)=z2o tm hp id (off + c) (zbk hp id)) ∧
  (∀ tm hp (t c sz:Nat),zt1 tm hp t c (.nil sz)=⟨(t,.arr hp.length 0 0 0) :: tm,hp++[some (.arr 0 sz [])]⟩) ∧
  (∀ tm hp (t c:Nat) (x:D),zt1 tm hp t c (.d x)=⟨tm,hp⟩) ∧
  (∀ tm hp (t c id ver off len:Nat),zt1 tm hp t c (.arr id ver off len)=⟨tm,hp⟩) ∧
  (∀ tm hp (id k:Nat) (cs:List V),z2o tm hp id k (some (.box cs))=zyu tm hp id k cs cs[k]?) ∧
  (∀ tm hp (id k sz:Nat) (cs:List V),zyu tm hp id k cs (some (.nil sz))=⟨tm,(hp.set id (some (.box (cs.set k (.own hp.length 0 sz [])))))++[some (.tok 0 sz)]⟩) ∧
  (∀ tm hp (id k i v sz:Nat) (xs:List (List D)) (cs:List V),zyu tm hp id k cs (some (.own i v sz xs))=⟨tm,hp⟩) ∧
  (∀ tm hp (id k:Nat) (x:D) (cs:List V),zyu tm hp id k cs (some (.d x))=⟨tm,hp⟩) ∧
  (∀ (sz:Nat),zr7 (.nil sz) = .d (.l sz [])) ∧
  (∀ (id ver sz:Nat) (xs:List (List D)),zr7 (.own id ver sz xs) = .d (.l sz xs)) ∧
  (∀ (x:D),zr7 (.d x) = .d x) ∧
  (∀ (sz:Nat),z1v (.nil sz) = .d (.l sz [])) ∧
  (∀ (id ver sz:Nat) (xs:List (List D)),z1v (.own id ver sz xs) = .d (.l sz xs)) ∧
  (∀ (x:D),z1v (.d x) = .d x) ∧
  (∀ (cs:List V),z1v (.agg cs) = .agg (cs.map zr7)) ∧
  (∀ (id ver off len:Nat),z1v (.arr id ver off len) = .arr id ver off len) ∧
  (∀ (id ver off len:Nat),zr7 (.arr id ver off len) = .arr id ver off len) ∧
  (∀ (s:St),zlr [] s=s) ∧
  (∀ (s:St) (t:Nat) (r:List Nat),zlr (t :: r) s=zlr r (ze1 s t)) ∧
  (∀ (s:St),zls [] s=s) ∧
  (∀ (s:St) (t:Nat × Nat) (r:List (Nat × Nat)),zls (t :: r) s=zls r (zd2 s t)) ∧
  (∀ tm hp (t:Nat),ze1 ⟨tm,hp⟩ t=Zaq tm hp t (zba tm t)) ∧
  (∀ tm hp (t sz:Nat),Zaq tm hp t (.nil sz)=⟨(t,.own hp.length 0 sz []) :: tm,hp++[some (.tok 0 sz)]⟩) ∧
  (∀ tm hp (t:Nat) (x:D),Zaq tm hp t (.d x)=⟨tm,hp⟩) ∧
  (∀ tm hp (t id ver sz:Nat) (xs:List (List D)),Zaq tm hp t (.own id ver sz xs)=⟨tm,hp⟩) ∧
  (∀ tm hp (t id ver off len:Nat),Zaq tm hp t (.arr id ver off len)=⟨tm,hp⟩) ∧
  (∀ tm hp (k:List Nat),z2l k ⟨tm,hp⟩=⟨zma tm k,hp⟩) ∧
  (∀ (tm:List (Nat × V)),zma tm []=[]) ∧
  (∀ (tm:List (Nat × V)) (t:Nat) (r:List Nat),zma tm (t :: r)=(t,zba tm t) :: zma tm r) ∧
  (∀ (k o:List Nat) (ob:List (Nat × Nat)) (da:List Nat) (db:List (Nat × Nat)) (n:Nat) (s:St),zor ⟨k,o,ob,da,db,true⟩ n s=z2q k n (zi4 db (zi3 da s))) ∧
  (∀ (k o:List Nat) (ob:List (Nat × Nat)) (da:List Nat) (db:List (Nat × Nat)) (n:Nat) (s:St),zor ⟨k,o,ob,da,db,false⟩ n s=zva k (zi4 db (zi3 da s))) ∧
  (∀ tm hp (k:List Nat) (n:Nat),z2q k n ⟨tm,hp⟩=zin n (zma tm k) (hp.take n)) ∧
  (∀ tm hp (k:List Nat),zva k ⟨tm,hp⟩=some ⟨zma tm k,hp⟩) ∧
  (∀ (n:Nat) (tm:List (Nat × V)) (h:List (Option Obj)),zin n tm h=if zdk n tm && zin.underH n h then some ⟨zer h tm,zin.normH h h⟩ else none) ∧
  (∀ (n:Nat),zin.underH n []=true) ∧
  (∀ (n:Nat) (o:Option Obj) (r:List (Option Obj)),zin.underH n (o :: r)=(Obj.under n o && zin.underH n r)) ∧
  (∀ (h:List (Option Obj)),zin.normH h []=[]) ∧
  (∀ (h:List (Option Obj)) (o:Option Obj) (r:List (Option Obj)),zin.normH h (o :: r)=zcf h o :: zin.normH h r) ∧
  (∀ (n:Nat),zdk n []=true) ∧
  (∀ (n i:Nat) (x:V) (r:List (Nat × V)),zdk n ((i,x) :: r)=(V.under n x && zdk n r)) ∧
  (∀ (n:Nat) (x:D),V.under n (.d x)=true) ∧
  (∀ (n:Nat) (sz:Nat),V.under n (.nil sz)=true) ∧
  (∀ (n:Nat),V.under n (.bad)=true) ∧
  (∀ (n:Nat) (id ver sz:Nat) (xs:List (List D)),V.under n (.own id ver sz xs)=decide (id < n)) ∧
  (∀ (n:Nat) (id ver off len:Nat),V.under n (.arr id ver off len)=decide (id < n)) ∧
  (∀ (n:Nat) (id off:Nat),V.under n (.ptr id off)=decide (id < n)) ∧
  (∀ (n:Nat) (id ver idx off:Nat),V.under n (.pm id ver idx off)=decide (id < n)) ∧
  (∀ (n:Nat) (id:Nat),V.under n (.map id)=decide (id < n)) ∧
  (∀ (n:Nat) (k:Nat) (a c:List V),V.under n (.fn k a c)=(V.underAll n a && V.underAll n c)) ∧
  (∀ (n:Nat) (cs:List V),V.under n (.agg cs)=V.underAll n cs) ∧
  (∀ (n:Nat) (cs:List V),V.under n (.tup cs)=V.underAll n cs) ∧
  (∀ (n:Nat),V.underAll n []=true) ∧
  (∀ (n:Nat) (x:V) (r:List V),V.underAll n (x :: r)=(V.under n x && V.underAll n r)) ∧
  (∀ (n:Nat) (cs:List V),Obj.under n (some (.box cs))=V.underAll n cs) ∧
  (∀ (n v sz:Nat),Obj.under n (some (.tok v sz))=true) ∧
  (∀ (n:Nat) (ds:List D),Obj.under n (some (.cst ds))=true) ∧
  (∀ (n v sz:Nat) (xs:List (List V)),Obj.under n (some (.arr v sz xs))=zfh n xs) ∧
  (∀ (n:Nat) (kvs:List (List D × V)),Obj.under n (some (.map kvs))=zjz n kvs) ∧
  (∀ (n:Nat),Obj.under n none=true) ∧
  (∀ (h:List (Option Obj)),zer h []=[]) ∧
  (∀ (h:List (Option Obj)) (i:Nat) (x:V) (r:List (Nat × V)),zer h ((i,x) :: r)=(i,zft h x) :: zer h r) ∧
  (∀ (h:List (Option Obj)) (cs:List V),zft h (.agg cs) = .agg (cs.map (zek h))) ∧
  (∀ (h:List (Option Obj)),zft h (.tup []) = .tup []) ∧
  (∀ (h:List (Option Obj)) (x:D),zft h (.d x) = .d x) ∧
  (∀ (h:List (Option Obj)) (x:D),zek h (.d x) = .d x) ∧
  (∀ (h:List (Option Obj)) (sz:Nat),zft h (.nil sz) = .nil sz) ∧
  (∀ (h:List (Option Obj)) (sz:Nat),zek h (.nil sz) = .nil sz) ∧
  (∀ (h:List (Option Obj)) (id off:Nat),zft h (.ptr id off) = .ptr id off) ∧
  (∀ (h:List (Option Obj)) (id off:Nat),zek h (.ptr id off) = .ptr id off) ∧
  (∀ (h:List (Option Obj)) (id:Nat),zft h (.map id) = .map id) ∧
  (∀ (h:List (Option Obj)) (id:Nat),zek h (.map id) = .map id) ∧
  (∀ (h:List (Option Obj)),zft h (.bad) = .bad) ∧
  (∀ (h:List (Option Obj)),zek h (.bad) = .bad) ∧
  (∀ (h:List (Option Obj)) (id ver sz:Nat) (xs:List (List D)),zft h (.own id ver sz xs)=z2s id ver sz xs (zbk h id)) ∧
  (∀ (h:List (Option Obj)) (id ver sz:Nat) (xs:List (List D)),zek h (.own id ver sz xs)=z2s id ver sz xs (zbk h id)) ∧
  (∀ (h:List (Option Obj)) (id ver off len:Nat),zft h (.arr id ver off len)=z2t id ver off len (zbk h id)) ∧
  (∀ (h:List (Option Obj)) (id ver off len:Nat),zek h (.arr id ver off len)=z2t id ver off len (zbk h id)) ∧
  (∀ (h:List (Option Obj)) (k:Nat) (a c:List V),zft h (.fn k a c)=if V.fine (.fn k a c) then .fn k a c else .bad) ∧
  (∀ (id ver sz v s:Nat) (xs:List (List D)),z2s id ver sz xs (some (.tok v s))=if ver=v then .own id 0 sz xs else .d (.l sz xs)) ∧
  (∀ (id ver off len v s:Nat) (xs:List (List V)),z2t id ver off len (some (.arr v s xs))=if ver=v then .arr id ver off len else .bad) ∧
  (∀ (h:List (Option Obj)) (cs:List V),zcf h (some (.box cs))=some (.box (cs.map (zek h)))) ∧
  (∀ (h:List (Option Obj)) (v sz:Nat),zcf h (some (.tok v sz))=some (.tok 0 sz)) ∧
  (∀ (h:List (Option Obj)) (ds:List D),zcf h (some (.cst ds))=some (.cst ds)) ∧
  (∀ (h:List (Option Obj)) (v sz:Nat) (xs:List (List V)),zcf h (some (.arr v sz xs))=some (.arr v sz (xs.map fun r=>r.map (zek h)))) ∧
  (∀ (h:List (Option Obj)) (kvs:List (List D × V)),zcf h (some (.map kvs))=some (.map (kvs.map fun p=>(p.1,zft h p.2)))) ∧
  (∀ (h:List (Option Obj)),zcf h none=none):=by
 refine ⟨?_, ?_, ?_, ?_, ?_, ?_, ?_, ?_, ?_, ?_, ?_, ?_, ?_, ?_, ?_, ?_, ?_, ?_, ?_, ?_, ?_, ?_, ?_, ?_, ?_, ?_, ?_, ?_, ?_, ?_, ?_, ?_, ?_, ?_, ?_, ?_, ?_, ?_, ?_, ?_, ?_, ?_, ?_, ?_, ?_, ?_, ?_, ?_, ?_, ?_, ?_, ?_, ?_, ?_, ?_, ?_, ?_, ?_, ?_, ?_, ?_, ?_, ?_, ?_, ?_, ?_, ?_, ?_, ?_, ?_, ?_, ?_, ?_, ?_, ?_, ?_, ?_, ?_, ?_, ?_, ?_, ?_, ?_, ?_, ?_, ?_, ?_, ?_, ?_, ?_, ?_, ?_, ?_, ?_, ?_, ?_, ?_⟩
 ·intro k o ob da db tr s; exact z2p ..
 ·intro s; exact rfl
 ·intro s t r; exact rfl
 ·intro s; exact rfl
 ·intro s t r; exact rfl
 ·intro tm hp t; exact rfl
 ·intro tm hp t c; exact zyt ..
 ·intro tm hp c id off; exact rfl
 ·intro tm hp id k cs; exact rfl
 ·intro tm hp id k cs v; exact rfl
 ·intro tm hp t c; exact zyv ..
 ·intro tm hp t c id off; exact rfl
 ·intro tm hp t c sz; exact rfl
 ·intro tm hp t c x; exact rfl
 ·intro tm hp t c id ver off len; exact rfl
 ·intro tm hp id k cs; exact rfl
 ·intro tm hp id k sz cs; exact rfl
 ·intro tm hp id k i v sz xs cs; exact rfl
 ·intro tm hp id k x cs; exact rfl
 ·intro sz; exact rfl
 ·intro id ver sz xs; exact rfl
 ·intro x; exact rfl
 ·intro sz; exact rfl
 ·intro id ver sz xs; exact rfl
 ·intro x; exact rfl
 ·intro cs; exact rfl
 ·intro id ver off len; exact rfl
 ·intro id ver off len; exact rfl
 ·intro s; exact rfl
 ·intro s t r; exact rfl
 ·intro s; exact rfl
 ·intro s t r; exact rfl
 ·intro tm hp t; exact zrw ..
 ·intro tm hp t sz; exact rfl
 ·intro tm hp t x; exact rfl
 ·intro tm hp t id ver sz xs; exact rfl
 ·intro tm hp t id ver off len; exact rfl
 ·intro tm hp k; exact rfl
 ·intro tm; exact rfl
 ·intro tm t r; exact rfl
 ·intro k o ob da db n s; exact z7m ..
 ·intro k o ob da db n s; exact z2r ..
 ·intro tm hp k n; exact rfl
 ·intro tm hp k; exact rfl
 ·intro n tm h; exact rfl
 ·intro n; exact rfl
 ·intro n o r; exact rfl
 ·intro h; exact rfl
 ·intro h o r; exact rfl
 ·intro n; exact rfl
 ·intro n i x r; exact rfl
 ·intro n x; simp only [V.under]
 ·intro n sz; simp only [V.under]
 ·intro n; simp only [V.under]
 ·intro n id ver sz xs; simp only [V.under]
 ·intro n id ver off len; simp only [V.under]
 ·intro n id off; simp only [V.under]
 ·intro n id ver idx off; simp only [V.under]
 ·intro n id; simp only [V.under]
 ·intro n k a c; simp only [V.under]
 ·intro n cs; simp only [V.under]
 ·intro n cs; simp only [V.under]
 ·intro n; simp only [V.underAll]
 ·intro n x r; simp only [V.underAll]
 ·intro n cs; exact rfl
 ·intro n v sz; exact rfl
 ·intro n ds; exact rfl
 ·intro n v sz xs; exact rfl
 ·intro n kvs; exact rfl
 ·intro n; exact rfl
 ·intro h; exact rfl
 ·intro h i x r; exact rfl
 ·intro h cs; exact rfl
 ·intro h; exact rfl
 ·intro h x; exact rfl
 ·intro h x; exact rfl
 ·intro h sz; exact rfl
 ·intro h sz; exact rfl
 ·intro h id off; exact rfl
 ·intro h id off; exact rfl
 ·intro h id; exact rfl
 ·intro h id; exact rfl
 ·intro h; exact rfl
 ·intro h; exact rfl
 ·intro h id ver sz xs; exact zry ..
 ·intro h id ver sz xs; exact zry ..
 ·intro h id ver off len; exact zrz ..
 ·intro h id ver off len; exact zrz ..
 ·intro h k a c; exact rfl
 ·intro id ver sz v s xs; exact rfl
 ·intro id ver off len v s xs; exact rfl
 ·intro h cs; exact rfl
 ·intro h v sz; exact rfl
 ·intro h ds; exact rfl
 ·intro h v sz xs; exact rfl
 ·intro h kvs; exact rfl
 ·intro h; exact rfl
theorem evN :
  (∀ (n:Nat),n + 0=n) ∧
  (∀ (n:Nat),0 + n=n) ∧
  (∀ (α:Type) (r:List α),r++[]=r) ∧
  (∀ (α:Type) (r:List α),[]++r=r) ∧
  (∀ (α:Type) (x:α) (r t:List α),(x :: r)++t=x :: (r++t)) ∧
  (∀ (α:Type),([]:List α).length=0) ∧
  (∀ (α:Type) (x:α) (r:List α),(x :: r).length=r.length + 1) ∧
  (∀ (α:Type) (x y:α) (r:List α),(x :: r).set 0 y=y :: r) ∧
  (∀ (α:Type) (x y:α) (r:List α) (i:Nat),(x :: r).set (i + 1) y=x :: r.set i y) ∧
  (∀ (α:Type) (r:List α),r.take 0=[]) ∧
  (∀ (α:Type) (x:α) (r:List α) (i:Nat),(x :: r).take (i + 1)=x :: r.take i) ∧
  (∀ (α:Type) (i:Nat),([]:List α).take i=[]) ∧
  (∀ (α:Type) (r:List α),r.drop 0=r) ∧
  (∀ (α:Type) (x:α) (r:List α) (i:Nat),(x :: r).drop (i + 1)=r.drop i) ∧
  (∀ (α:Type) (i:Nat),([]:List α).drop i=[]) ∧
  (∀ (α:Type) (x:α) (r:List α),(x :: r)[0]?=some x) ∧
  (∀ (α:Type) (x:α) (r:List α) (i:Nat),(x :: r)[i + 1]?=r[i]?) ∧
  (∀ (α β:Type) (f:α→β),([]:List α).map f=[]) ∧
  (∀ (α β:Type) (f:α→β) (x:α) (r:List α),(x :: r).map f=f x :: r.map f) ∧
  (∀ (α:Type) (i:Nat),([]:List α).zipIdx i=[]) ∧
  (∀ (α:Type) (x:α) (r:List α) (i:Nat),(x :: r).zipIdx i=(x,i) :: r.zipIdx (i + 1)) ∧
  (∀ (args:List V) (h:List (Option Obj)),zk3 args h=⟨args.zipIdx.map fun p=>(p.2,p.1),h⟩) ∧
  (∀ (α:Type) (x:α),List.replicate 0 x=[]) ∧
  (∀ (α:Type) (x:α) (k:Nat),List.replicate (k + 1) x=x :: List.replicate k x) ∧
  (∀ (i:Nat),([]:List Nat).contains i=false) ∧
  (∀ (x i:Nat) (r:List Nat),(x :: r).contains i=(i == x || r.contains i)) ∧
  (∀ (x:Nat),(x == x)=true) ∧
  (∀ (x:Bool),(x == true)=x) ∧
  (∀ (x:Bool),(x == false) = !x) ∧
  (∀ (x:Bool),(x || true)=true) ∧
  (∀ (x:Bool),(true || x)=true) ∧
  (∀ (x:Bool),(x || false)=x) ∧
  (∀ (x:Bool),(false || x)=x) ∧
  (∀ (x:Bool),(x && true)=x) ∧
  (∀ (x:Bool),(true && x)=x) ∧
  (∀ (x:Bool),(x && false)=false) ∧
  (∀ (x:Bool),(false && x)=false) ∧
  ((!true)=false) ∧
  ((!false)=true) ∧
  (∀ (p:Prop),(p∧True)=p) ∧
  (∀ (p:Prop),(True∧p)=p) ∧
  (∀ (α:Type) (x:α),(x=x)=True) ∧
  ((false=true)=False) ∧
  ((true=false)=False) ∧
  (∀ (α:Type) (x y:α),(if True then x else y)=x) ∧
  (∀ (α:Type) (x y:α),(if False then x else y)=y) ∧
  (decide True=true) ∧
  (decide False=false):=by
 refine ⟨?_, ?_, ?_, ?_, ?_, ?_, ?_, ?_, ?_, ?_, ?_, ?_, ?_, ?_, ?_, ?_, ?_, ?_, ?_, ?_, ?_, ?_, ?_, ?_, ?_, ?_, ?_, ?_, ?_, ?_, ?_, ?_, ?_, ?_, ?_, ?_, ?_, ?_, ?_, ?_, ?_, ?_, ?_, ?_, ?_, ?_, ?_, ?_⟩
 ·intro n; simp
 ·intro n; simp
 ·intro α r; simp
 ·intro α r; simp
 ·intro α x r t; simp
 ·intro α; simp
 ·intro α x r; simp
 ·intro α x y r; simp
 ·intro α x y r i; simp
 ·intro α r; simp
 ·intro α x r i; simp
 ·intro α i; simp
 ·intro α r; simp
 ·intro α x r i; simp
 ·intro α i; simp
 ·intro α x r; simp
 ·intro α x r i; simp
 ·intro α β f; simp
 ·intro α β f x r; simp
 ·intro α i; simp
 ·intro α x r i; simp
 ·intro args h; exact rfl
 ·intro α x; simp
 ·intro α x k; exact rfl
 ·intro i; simp
 ·intro x i r; exact rfl
 ·intro x; simp
 ·intro x; simp
 ·intro x; simp
 ·intro x; simp
 ·intro x; simp
 ·intro x; simp
 ·intro x; simp
 ·intro x; simp
 ·intro x; simp
 ·intro x; simp
 ·intro x; simp
 ·simp
 ·simp
 ·intro p; simp
 ·intro p; simp
 ·intro α x; simp
 ·simp
 ·simp
 ·intro α x y; simp
 ·intro α x y; simp
 ·simp
 ·simp
theorem evM :
  (za8 []=0) ∧
  (∀ (o:CO) (r:List CO),za8 (o :: r)=o.op.nmk + za8 r) ∧
  (∀ (x:A),Cop.nmk (.mv x)=0) ∧
  (∀ (x y z:A),Cop.nmk (.pick x y z)=0) ∧
  (∀ (z:V),Cop.nmk (.zero z)=1) ∧
  (∀ (x:A),Cop.nmk (.box x)=1) ∧
  (∀ (z:List V) (ps:List (Nat × Nat × A)),Cop.nmk (.build z ps)=0) ∧
  (∀ (sz n:Nat) (z:List D) (ps:List (Nat × A)),Cop.nmk (.bsl sz n z ps)=1) ∧
  (∀ (g:Bool) (n:Nat) (x:A),Cop.nmk (.ld g n x)=0) ∧
  (∀ (n:Nat) (x y:A),Cop.nmk (.st n x y)=0) ∧
  (∀ (x:A),Cop.nmk (.nilc x)=0) ∧
  (∀ (op:BinOp) (x y:A),Cop.nmk (.bin op x y)=0) ∧
  (∀ (ks:List CK) (g:Bool) (x y:A),Cop.nmk (.eqa ks g x y)=0) ∧
  (∀ (g:Bool) (x y:A),Cop.nmk (.eqb g x y)=0) ∧
  (∀ (op:UnOp) (x:A),Cop.nmk (.un op x)=0) ∧
  (∀ (g:Bool) (x:A),Cop.nmk (.nils g x)=0) ∧
  (∀ (k:IntKind) (x:A),Cop.nmk (.conv k x)=0) ∧
  (∀ (x:A),Cop.nmk (.sid x)=0) ∧
  (∀ (k:Nat) (f c:List A) (z:Bool),Cop.nmk (.mkf k f c z)=0) ∧
  (Cop.nmk (.mkm)=1) ∧
  (∀ (sz b:Nat) (z:List D) (ow:Bool) (x y:A),Cop.nmk (.mks sz b z ow x y)=1) ∧
  (∀ (x:A),Cop.nmk (.bts x)=0) ∧
  (∀ (sz:Nat) (x:A) (lo hi:Option A),Cop.nmk (.slc sz x lo hi)=0) ∧
  (∀ (x:A) (lo hi:Option A),Cop.nmk (.sls x lo hi)=0) ∧
  (∀ (o:Nat) (x:A),Cop.nmk (.fa o x)=0) ∧
  (∀ (g:Bool) (o n:Nat) (x:A),Cop.nmk (.fl g o n x)=0) ∧
  (∀ (sz:Nat) (x y:A),Cop.nmk (.ia sz x y)=0) ∧
  (∀ (n sz:Nat) (x y:A),Cop.nmk (.iaa n sz x y)=0) ∧
  (∀ (x y:A),Cop.nmk (.ixs x y)=0) ∧
  (∀ (g:Bool) (n sz:Nat) (x y:A),Cop.nmk (.ixa g n sz x y)=0) ∧
  (∀ (k:Nat) (x:A),Cop.nmk (.len k x)=0) ∧
  (∀ (sz b:Nat) (x y:A),Cop.nmk (.app sz b x y)=1) ∧
  (∀ (g:Bool) (xs:List A),Cop.nmk (.mm g xs)=0) ∧
  (∀ (ag:Bool) (ks:List CK) (ok:Bool) (z:V) (m k:A),Cop.nmk (.lk ag ks ok z m k)=0) ∧
  (∀ (ag:Bool) (ks:List CK) (m k v:A),Cop.nmk (.mu ag ks m k v)=0) ∧
  (∀ (ag:Bool) (ks:List CK) (m k:A),Cop.nmk (.del ag ks m k)=0) ∧
  (∀ (x:A),Cop.nmk (.frz x)=0) ∧
  (∀ (x:A) (i:Nat),Cop.nmk (.ext x i)=0) ∧
  (∀ (k:Nat) (as:List A) (n:Nat) (z:Bool),Cop.nmk (.call k as n z)=n) ∧
  (∀ (f:A) (as:List A) (n:Nat) (z:Bool),Cop.nmk (.callv f as n z)=n) ∧
  (more 0=[]) ∧
  (∀ (n:Nat),more (n + 1)=none :: more n):=by
 refine ⟨?_, ?_, ?_, ?_, ?_, ?_, ?_, ?_, ?_, ?_, ?_, ?_, ?_, ?_, ?_, ?_, ?_, ?_, ?_, ?_, ?_, ?_, ?_, ?_, ?_, ?_, ?_, ?_, ?_, ?_, ?_, ?_, ?_, ?_, ?_, ?_, ?_, ?_, ?_, ?_, ?_, ?_⟩
 ·exact rfl
 ·intro o r; exact rfl
 ·intro x; exact rfl
 ·intro x y z; exact rfl
 ·intro z; exact rfl
 ·intro x; exact rfl
 ·intro z ps; exact rfl
 ·intro sz n z ps; exact rfl
 ·intro g n x; exact rfl
 ·intro n x y; exact rfl
 ·intro x; exact rfl
 ·intro op x y; exact rfl
 ·intro ks g x y; exact rfl
 ·intro g x y; exact rfl
 ·intro op x; exact rfl
 ·intro g x; exact rfl
 ·intro k x; exact rfl
 ·intro x; exact rfl
 ·intro k f c z; exact rfl
 ·exact rfl
 ·intro sz b z ow x y; exact rfl
 ·intro x; exact rfl
 ·intro sz x lo hi; exact rfl
 ·intro x lo hi; exact rfl
 ·intro o x; exact rfl
 ·intro g o n x; exact rfl
 ·intro sz x y; exact rfl
 ·intro n sz x y; exact rfl
 ·intro x y; exact rfl
 ·intro g n sz x y; exact rfl
 ·intro k x; exact rfl
 ·intro sz b x y; exact rfl
 ·intro g xs; exact rfl
 ·intro ag ks ok z m k; exact rfl
 ·intro ag ks m k v; exact rfl
 ·intro ag ks m k; exact rfl
 ·intro x; exact rfl
 ·intro x i; exact rfl
 ·intro k as n z; exact rfl
 ·intro f as n z; exact rfl
 ·exact rfl
 ·intro n; exact rfl
section
variable {E:Nat→Option Fn} {Q:Ex→St→Prop}
theorem zaa {ops:List CO}{tm:List (Nat × V)}{hp:List (Option Obj)}(h:∀ K:St→List Foot→Prop,(∀ s' es,Q .normal s'→K s' es)→go (lcall E) K hp.length ops 0 tm (hp++more (za8 ops)) []):WX E (.region false ops) ⟨tm,hp⟩ Q:=by
 obtain ⟨s',es,h1,h2⟩:=zv4 ops 0 _ [] _ (h (fun s' _=>Q .normal s') (fun s' _ h=>h))
 refine ⟨.normal,s', ?_,h2⟩
 rw [zhv]
 unfold zb6
 rw [zlf] at h1
 simp only [h1,Qm,if_false]
theorem zaz {ops:List CO}{tm:List (Nat × V)}{hp:List (Option Obj)}(h:∀ K:St→List Foot→Prop,(∀ s' es,zjj ops es 0=true→Q .normal s'→K s' es)→go (lcall E) K hp.length ops 0 tm (hp++more (za8 ops)) []):WX E (.region true ops) ⟨tm,hp⟩ Q:=by
 obtain ⟨s',es,h1,h2,h3⟩:=zv4 ops 0 _ [] _ (h (fun s' es=>zjj ops es 0=true∧Q .normal s') (fun s' es h1 h2=>⟨h1,h2⟩))
 refine ⟨.normal,s', ?_,h3⟩
 rw [zhv]
 unfold zb6
 rw [zlf] at h1
 simp only [List.reverse_nil,List.nil_append] at h2
 rw [zif] at h2
 simp only [h1,if_true,h2]
end
open Go
section
variable {C:zbg} {K:St→List Foot→Prop} {b:Nat} {r:List CO} {j:Nat} {tm:List (Nat × V)} {hp:List (Option Obj)} {es:List Foot} {d p:Nat}
theorem Zes (k:Nat)(f c:List A):go C K b (⟨some d,.mkf k f c false,none,p⟩ :: r) j tm hp es=go C K b r j ((d,.fn k (evL tm f) (evL tm c)) :: tm) hp (⟨[],false,b + j,0⟩ :: es):=by
 rw [zbh _ _ rfl]
 simp only [Cop.args,List.map_append,← zjt,act,Qm,if_false]
 have h1:(evL tm f).length=f.length:=by rw [zjt,Qf]
 rw [← h1,List.take_left' rfl,List.drop_left' rfl]
 rfl
def zr0 (vs:List V)(hp:List (Option Obj)):Option (List D × List (Option Obj)):=za5 vs ((zbj vs).map (zbk hp))
def zyx (C:zbg)(K:St→List Foot→Prop)(b d k n:Nat)(r:List CO)(j:Nat)(tm:List (Nat × V))(hp:List (Option Obj))(es:List Foot)(vs:List V):Option (List D × List (Option Obj))→Prop
 | some (c,os)=>go C K b r j ((d,.d (.f k (c.take n) (c.drop n))) :: tm) (za6 hp (zbj vs) os) (⟨zbj vs,true,b + j,0⟩ :: es)
 | none=>((zbj vs).map (zbk hp)).all Option.isSome=true∧go C K b r j ((d,.fn k (vs.take n) (vs.drop n)) :: tm) (za6 hp (zbj vs) ((zbj vs).map (zbk hp))) (⟨zbj vs,true,b + j,0⟩ :: es)
theorem z7p (k:Nat)(f c:List A):go C K b (⟨some d,.mkf k f c true,none,p⟩ :: r) j tm hp es=(zir (zbj (evL tm (f++c)))=true∧zyx C K b d k f.length r j tm hp es (evL tm (f++c)) (zr0 (evL tm (f++c)) hp)):=by
 rw [zbh _ _ rfl]
 simp only [Cop.args,← zjt,act,if_true,Cop.ids]
 unfold zr0
 generalize evL tm (f++c)=vs
 cases zir (zbj vs) with
 | false=>simp [zmy]
 | true =>
  simp only [true_and]
  cases za5 vs ((zbj vs).map (zbk hp)) with
  | some x=>obtain ⟨c',os⟩:=x; simp [zmy,zyx,Cop.wr,Cop.nmk,Cop.mk,zyq,za6,Res.nws]
  | none =>
   simp only [zyx]
   cases ((zbj vs).map (zbk hp)).all Option.isSome with
   | false=>simp [zmy]
   | true=>simp [zmy,Cop.wr,Cop.nmk,Cop.mk,zyq,za6,Res.nws]
def Zic (off:Nat)(o:Obj)(x:Option (List D))(y:Option (List D × List (Option Obj))):Option (List D × List (Option Obj)):=match x,y with
 | some ds,some (c,os)=>some (.q ds off :: c,some (.cst ds) :: os)
 | _,_=>none
def Zid (x:Option D)(y:Option (List D × List (Option Obj))):Option (List D × List (Option Obj)):=match x,y with
 | some ds,some (c,os)=>some (ds :: c,os)
 | _,_=>none
def z7q (id off:Nat)(vs:List V)(hp:List (Option Obj)):Option Obj→Option (List D × List (Option Obj))
 | some (.box cs)=>Zic off (.box cs) (V.toDs cs) (zr0 vs hp)
 | some (.cst ds)=>match zr0 vs hp with | some (c,os)=>some (.q ds off :: c,some (.cst ds) :: os) | none=>none
 | _=>none
theorem z2v (id off:Nat)(vs:List V):zr0 (.ptr id off :: vs) hp=z7q id off vs hp (zbk hp id):=by
 simp only [zr0,zbj,Qb]
 cases ho:zbk hp id with
 | none=>simp [za5,z7q]
 | some o =>
  cases o with
  | box cs=>simp only [za5,z7q,Zic,zr0]; cases V.toDs cs <;> cases za5 vs ((zbj vs).map (zbk hp)) <;> rfl
  | cst ds=>simp only [za5,z7q,zr0]; cases za5 vs ((zbj vs).map (zbk hp)) <;> rfl
  | _=>simp [za5,z7q]
theorem Zet (x:D)(vs:List V):zr0 (.d x :: vs) hp=Zid (some x) (zr0 vs hp):=by
 simp only [zr0,zbj,za5,V.toD,Zid]
 cases za5 vs ((zbj vs).map (zbk hp)) <;> rfl
def zco:V→List Nat
 | .map id=>[id]
 | _=>[]
def lkF (ag:Bool)(ks:List CK)(ok:Bool)(z:V)(hp:List (Option Obj))(m k:V):Option V:=zqe ag ks ok z [m,k] ((zco m).map (zbk hp))
def muF (ag:Bool)(ks:List CK)(hp:List (Option Obj))(m k v:V):Option (List (Option Obj)):=match zk1 ag ks [m,k,v] ((zco m).map (zbk hp)) with
 | some os=>some (za6 hp (zco m) os)
 | none=>none
def Zar (ag:Bool)(ks:List CK)(hp:List (Option Obj))(m k:V):Option (List (Option Obj)):=match zhg ag ks [m,k] ((zco m).map (zbk hp)) with
 | some os=>some (za6 hp (zco m) os)
 | none=>none
theorem Zeu:go C K b (⟨some d,.mkm,none,p⟩ :: r) j tm hp es=go C K b r (j + 1) ((d,.map (b + j)) :: tm) (hp.set (b + j) (some (.map []))) (⟨[],false,b + j,1⟩ :: es):=by
 rw [zbh _ _ rfl]; rfl
theorem Zjc (ag:Bool)(ks:List CK)(ok:Bool)(z:V)(m k:A):go C K b (⟨some d,.lk ag ks ok z m k,none,p⟩ :: r) j tm hp es=goV C K b d r j tm hp es (zco (evT tm m)) (lkF ag ks ok z hp (evT tm m) (evT tm k)):=by
 rw [zbh _ _ rfl]
 simp only [Cop.args,Qb,Qc,act]
 have h1:Cop.ids (.lk ag ks ok z m k) [evT tm m,evT tm k]=zco (evT tm m):=by cases evT tm m <;> rfl
 rw [h1]
 unfold lkF
 cases zqe ag ks ok z [evT tm m,evT tm k] ((zco (evT tm m)).map (zbk hp)) <;> rfl
theorem Zjd (dst:Option Nat)(ag:Bool)(ks:List CK)(m k v:A):go C K b (⟨dst,.mu ag ks m k v,none,p⟩ :: r) j tm hp es=goH C K b dst r j tm es (zco (evT tm m)) (muF ag ks hp (evT tm m) (evT tm k) (evT tm v)):=by
 rw [zbh _ _ rfl]
 simp only [Cop.args,Qb,Qc,act]
 have h1:Cop.ids (.mu ag ks m k v) [evT tm m,evT tm k,evT tm v]=zco (evT tm m):=by cases evT tm m <;> rfl
 rw [h1]
 unfold muF
 cases zk1 ag ks [evT tm m,evT tm k,evT tm v] ((zco (evT tm m)).map (zbk hp)) <;> rfl
theorem Zev (dst:Option Nat)(ag:Bool)(ks:List CK)(m k:A):go C K b (⟨dst,.del ag ks m k,none,p⟩ :: r) j tm hp es=goH C K b dst r j tm es (zco (evT tm m)) (Zar ag ks hp (evT tm m) (evT tm k)):=by
 rw [zbh _ _ rfl]
 simp only [Cop.args,Qb,Qc,act]
 have h1:Cop.ids (.del ag ks m k) [evT tm m,evT tm k]=zco (evT tm m):=by cases evT tm m <;> rfl
 rw [h1]
 unfold Zar
 cases zhg ag ks [evT tm m,evT tm k] ((zco (evT tm m)).map (zbk hp)) <;> rfl
def Zie (hp:List (Option Obj))(m:V):Option V:=match m with
 | .map id=>match zbk hp id with
  | some (.map kvs)=>some (.d (.i .i64 kvs.length))
  | _=>none
 | _=>none
theorem z7r (x:A):go C K b (⟨some d,.len 2 x,none,p⟩ :: r) j tm hp es=goV C K b d r j tm hp es (zco (evT tm x)) (Zie hp (evT tm x)):=by
 rw [zbh _ _ rfl]
 simp only [Cop.args,Qb,Qc,act]
 have h1:Cop.ids (.len 2 x) [evT tm x]=zco (evT tm x):=by cases evT tm x <;> rfl
 rw [h1]
 cases evT tm x with
 | map id =>
  simp only [zco,Qb,Qc,Zie]
  cases zbk hp id with
  | none=>rfl
  | some o=>cases o <;> rfl
 | d x=>cases x <;> rfl
 | _=>rfl
def zyy (neg:Bool)(x:V):Option V:=match zvg x with
 | some q=>some (.d (.b (if neg then !q else q)))
 | none=>none
theorem z7s (neg:Bool)(x:A):go C K b (⟨some d,.nilm neg x,none,p⟩ :: r) j tm hp es=goV C K b d r j tm hp es [] (zyy neg (evT tm x)):=by
 rw [zbh _ _ rfl]
 simp only [Cop.args,Qb,Qc,Cop.ids,act,zyy]
 cases zvg (evT tm x) <;> rfl
def Zew (ks:List CK)(neg:Bool):V→V→Option V
 | .agg x,.agg y=>match V.toDs x,V.toDs y with
  | some x,some y=>match ze7 ks x y with | some q=>some (.d (.b (if neg then !q else q))) | none=>none
  | _,_=>none
 | _,_=>none
theorem Zex (ks:List CK)(neg:Bool)(x y:A):go C K b (⟨some d,.eqa ks neg x y,none,p⟩ :: r) j tm hp es=goV C K b d r j tm hp es [] (Zew ks neg (evT tm x) (evT tm y)):=by
 rw [zbh _ _ rfl]
 simp only [Cop.args,Qb,Qc,Cop.ids]
 generalize evT tm x=v
 generalize evT tm y=u
 cases v with
 | agg v =>
  cases u with
  | agg u =>
   simp only [act,Zew]
   cases V.toDs v with
   | none=>cases V.toDs u <;> rfl
   | some a=>cases V.toDs u with
    | none=>rfl
    | some b=>simp only; cases ze7 ks a b <;> rfl
  | _=>rfl
 | _=>cases u <;> rfl
def Zif (ag:Bool)(len sz:Nat):V→V→Option V
 | .agg cs,.d (.i _ i)=>if 0 ≤ i∧i < len then asO ag sz (zby cs (i.toNat * sz) sz) else none
 | _,_=>none
theorem Zey (ag:Bool)(len sz:Nat)(x y:A):go C K b (⟨some d,.ixa ag len sz x y,none,p⟩ :: r) j tm hp es=goV C K b d r j tm hp es [] (Zif ag len sz (evT tm x) (evT tm y)):=by
 rw [zbh _ _ rfl]
 simp only [Cop.args,Qb,Qc,Cop.ids]
 generalize evT tm x=v
 generalize evT tm y=u
 cases v with
 | agg v =>
  cases u with
  | d u =>
   cases u with
   | i k i =>
    simp only [act,Zif]
    by_cases hc:0 ≤ i∧i < len
    ·simp only [hc,and_self,if_true]
     cases zby v (i.toNat * sz) sz with
     | none=>rfl
     | some c=>simp only [asO]; cases zio ag sz c <;> rfl
    ·simp only [hc,if_false]; rfl
   | _=>rfl
  | _=>rfl
 | _=>cases u <;> rfl
def Zas (len sz:Nat):V→V→Option V
 | .ptr id o,.d (.i _ i)=>if 0 ≤ i∧i < len then some (.ptr id (o + i.toNat * sz)) else none
 | .d (.q ds o),.d (.i _ i)=>if 0 ≤ i∧i < len then some (.d (.q ds (o + i.toNat * sz))) else none
 | _,_=>none
theorem Zez (len sz:Nat)(x y:A):go C K b (⟨some d,.iaa len sz x y,none,p⟩ :: r) j tm hp es=goV C K b d r j tm hp es [] (Zas len sz (evT tm x) (evT tm y)):=by
 rw [zbh _ _ rfl]
 simp only [Cop.args,Qb,Qc,Cop.ids]
 generalize evT tm x=v
 generalize evT tm y=u
 cases v with
 | ptr id o =>
  cases u with
  | d u =>
   cases u with
   | i k i=>simp only [act,Zas]; by_cases hc:0 ≤ i∧i < len <;> simp only [hc,and_self,if_true,if_false] <;> rfl
   | _=>rfl
  | _=>rfl
 | d v =>
  cases v with
  | q ds o =>
   cases u with
   | d u =>
    cases u with
    | i k i=>simp only [act,Zas]; by_cases hc:0 ≤ i∧i < len <;> simp only [hc,and_self,if_true,if_false] <;> rfl
    | _=>rfl
   | _=>rfl
  | _=>cases u <;> rfl
 | _=>cases u <;> rfl
theorem Zje (mx:Bool)(xs:List A):go C K b (⟨some d,.mm mx xs,none,p⟩ :: r) j tm hp es=goV C K b d r j tm hp es [] (oD (zhn mx (evL tm xs))):=by
 rw [zbh _ _ rfl]
 simp only [Cop.args,Cop.ids,act,← zjt]
 cases zhn mx (evL tm xs) <;> rfl
def zvb (sz:Nat)(xs:List (List V))(i:Nat)(r:List (Nat × V))(c:Option (List V)):Option (List (List V)):=match c with
 | some c=>if c.length=sz∧i < xs.length then zjy sz (xs.set i c) r else none
 | none=>none
theorem zwy (sz:Nat)(xs:List (List V))(i:Nat)(x:V)(r:List (Nat × V)):zjy sz xs ((i,x) :: r)=zvb sz xs i r x.cel:=by
 simp only [zjy,zvb]; cases x.cel <;> rfl
def goR (C:zbg)(K:St→List Foot→Prop)(b d sz n:Nat)(r:List CO)(j:Nat)(tm:List (Nat × V))(hp:List (Option Obj))(es:List Foot):Option (List (List V))→Prop
 | some xs=>go C K b r (j + 1) ((d,.arr (b + j) 0 0 n) :: tm) (hp.set (b + j) (some (.arr 0 sz xs))) (⟨[],false,b + j,1⟩ :: es)
 | none=>False
theorem Ze0 (sz n:Nat)(z:List D)(ps:List (Nat × A)):go C K b (⟨some d,.bsa sz n z ps,none,p⟩ :: r) j tm hp es=goR C K b d sz n r j tm hp es (zjy sz (List.replicate n (ofDs z)) (evI tm ps)):=by
 rw [zbh _ _ rfl]
 simp only [Cop.args,Cop.ids,act]
 have h1:z1u ps ((ps.map (·.2)).map (evT tm))=evI tm ps:=by
  unfold evI
  induction ps with
  | nil=>rfl
  | cons q ps ih=>obtain ⟨a,x⟩:=q; simp only [Qb,z1u,ih]
 rw [h1]
 cases zjy sz (List.replicate n (ofDs z)) (evI tm ps) <;> rfl
theorem z7t (x:A):go C K b (⟨some d,.capn x,none,p⟩ :: r) j tm hp es=goV C K b d r j tm hp es [] (match evT tm x with | .nil _=>some (.d (.i .i64 0)) | _=>none):=by
 rw [zbh _ _ rfl]
 simp only [Cop.args,Qb,Qc,Cop.ids,act]
 cases evT tm x <;> rfl
def Ze1 (sz bytes fresh:Nat)(z:List D):V→V→Option (V × Obj)
 | .nil _,.d (.i _ n)=>if 0 ≤ n∧zbi n.toNat bytes then some (.arr fresh 0 0 n.toNat,.arr 0 sz (List.replicate n.toNat (ofDs z))) else none
 | _,_=>none
theorem Ze2 (sz bytes:Nat)(z:List D)(x y:A):go C K b (⟨some d,.apz sz bytes z x y,none,p⟩ :: r) j tm hp es=(match Ze1 sz bytes (b + j) z (evT tm x) (evT tm y) with
  | some (v,o)=>go C K b r (j + 1) ((d,v) :: tm) (hp.set (b + j) (some o)) (⟨[],true,b + j,1⟩ :: es)
  | none=>False):=by
 rw [zbh _ _ rfl]
 simp only [Cop.args,Qb,Qc]
 generalize evT tm x=v
 generalize evT tm y=u
 cases v with
 | nil s =>
  cases u with
  | d u =>
   cases u with
   | i k n =>
    simp only [Cop.ids,Qc,act,zo4,Ze1]
    by_cases hc:0 ≤ n∧zbi n.toNat bytes=true
    ·simp only [hc,and_self,if_true]; rfl
    ·simp only [hc,if_false]; rfl
   | _=>rfl
  | _=>rfl
 | arr id ver off len =>
  simp only [Cop.ids,act,zo4,Ze1]; rfl
 | _=>cases u <;> rfl
def Zat (sz:Nat)(hp:List (Option Obj))(y:V):Option (List (List V)):=ze0 sz y ((zb8 y).map (zbk hp))
def z7u (C:zbg)(K:St→List Foot→Prop)(b d sz bytes:Nat)(r:List CO)(j:Nat)(tm:List (Nat × V))(hp:List (Option Obj))(es:List Foot)(x y:V)(ys:Option (List (List V))):Prop:=match x with
 | .nil _=>match ys with
  | some ys=>zbi ys.length bytes=true∧go C K b r (j + 1) ((d,.arr (b + j) 0 0 ys.length) :: tm) (za6 (za6 hp (zb8 y) ((zb8 y).map (zbk hp))) [b + j] [some (.arr 0 sz ys)]) (⟨zb8 y,true,b + j,1⟩ :: es)
  | none=>False
 | .arr id ver off len=>match zbk hp id,ys with
  | some (.arr ver' sz' xs),some ys=>(ver=ver'∧sz'=sz∧off + len ≤ xs.length∧y.other id=true∧zbi (len + ys.length) bytes=true) ∧
    go C K b r (j + 1) ((d,.arr id (ver + 1) 0 (len + ys.length)) :: tm) (za6 hp (id :: zb8 y) (some (.arr (ver + 1) sz ((xs.drop off).take len++ys)) :: (zb8 y).map (zbk hp))) (⟨id :: zb8 y,true,b + j,0⟩ :: es)
  | _,_=>False
 | _=>False
theorem Ze3 (sz bytes:Nat)(x y:A):go C K b (⟨some d,.apa sz bytes x y,none,p⟩ :: r) j tm hp es=z7u C K b d sz bytes r j tm hp es (evT tm x) (evT tm y) (Zat sz hp (evT tm y)):=by
 rw [zbh _ _ rfl]
 simp only [Cop.args,Qb,Qc,act]
 generalize evT tm x=v
 generalize evT tm y=u
 have hi:zow u=zb8 u:=by cases u <;> rfl
 cases v with
 | nil s =>
  rw [zg1,hi]
  simp only [zgn,zr5,z7u,Zat]
  cases ze0 sz u ((zb8 u).map (zbk hp)) with
  | none=>rfl
  | some ys =>
   simp only
   by_cases hr:zbi ys.length bytes=true
   ·simp only [hr,if_true,true_and]; rfl
   ·simp only [hr]; simp [zmy]
 | arr id ver off len =>
  rw [zg2,hi]
  simp only [zgn,Qb,z7u,Zat]
  unfold zvf
  cases ho:zbk hp id with
  | none=>rfl
  | some o =>
   cases o with
   | arr ver' sz' xs =>
    simp only
    by_cases hc:ver=ver'∧sz'=sz∧off + len ≤ xs.length∧u.other id=true
    ·rw [if_pos hc]
     cases ze0 sz u ((zb8 u).map (zbk hp)) with
     | none=>rfl
     | some ys =>
      simp only
      by_cases hr:zbi (len + ys.length) bytes=true
      ·rw [if_pos hr]
       exact propext ⟨fun h=>⟨⟨hc.1,hc.2.1,hc.2.2.1,hc.2.2.2,hr⟩,h⟩,fun h=>h.2⟩
      ·rw [if_neg hr]
       exact propext ⟨fun h=>h.elim,fun h=>hr h.1.2.2.2.2⟩
    ·rw [if_neg hc]
     cases ze0 sz u ((zb8 u).map (zbk hp)) with
     | none=>rfl
     | some ys=>simp only [zmy]; exact propext ⟨fun h=>h.elim,fun h=>hc ⟨h.1.1,h.1.2.1,h.1.2.2.1,h.1.2.2.2.1⟩⟩
   | _=>rfl
 | _=>rfl
def zyz (C:zbg)(K:St→List Foot→Prop)(b:Nat)(dst:Option Nat)(key:Nat)(r:List CO)(j:Nat)(tm:List (Nat × V))(hp:List (Option Obj))(es:List Foot)(hs:Option (List V)):Prop :=
 zlq C K b dst 0 r j tm hp es (zrv (zbw .lend C) (zbk hp) key 0 (b + j) hs)
theorem z7v (dst:Option Nat)(key:Nat)(as:List A):go C K b (⟨dst,.lend key as,none,p⟩ :: r) j tm hp es=zyz C K b dst key r j tm hp es (V.handAll (evL tm as)):=by
 have ho:(⟨tm,hp⟩:St).obj=zbk hp:=rfl
 simp only [go,rgo,zhl,wanted,zmx,Cop.isCall,if_true,callee,Cop.args,ho,zhm,zjt,zyz]
 rw [show Md.lend.hands (as.map (evT tm))=V.handAll (as.map (evT tm)) from rfl]
 cases zrv (zbw .lend C) (zbk hp) key 0 (b + j) (V.handAll (as.map (evT tm))) with
 | none=>rfl
 | some x=>obtain ⟨v,is,os,ns⟩:=x; cases dst <;> rfl
theorem z2w (dst:Option Nat)(key:Nat)(as:List A)(res:Nat):go C K b (⟨dst,.callr key as res,none,p⟩ :: r) j tm hp es=zlq C K b dst res r j tm hp es (zrv C (zbk hp) key res (b + j) (V.rawAll (evL tm as))):=by
 have ho:(⟨tm,hp⟩:St).obj=zbk hp:=rfl
 simp only [go,rgo,zhl,wanted,zmx,Cop.isCall,if_true,callee,Cop.args,ho,zhm,zjt]
 rw [show Md.raw.hands (as.map (evT tm))=V.rawAll (as.map (evT tm)) from rfl,show zbw .raw C=C from rfl]
 cases zrv C (zbk hp) key res (b + j) (V.rawAll (as.map (evT tm))) with
 | none=>rfl
 | some x=>obtain ⟨v,is,os,ns⟩:=x; cases dst <;> rfl
end
theorem zlt (obj:Nat→Option Obj):∀ (f:Nat) (ds:List D),ds.length < f→zgc obj f (ofDs ds)=some ds
 | 0,ds,h=>by omega
 | f + 1,[],_=>rfl
 | f + 1,x :: ds,h=>by
  have h:ds.length < f:=by simpa using h
  obtain ⟨f,rfl⟩:∃ g,f=g + 1:=⟨f - 1,by omega⟩
  simp [ofDs,zgc,V.lend,V.toD]
  have:=zlt obj (f + 1) ds h
  simp only [ofDs] at this
  rw [this]
theorem zju (obj:Nat→Option Obj)(n:Nat):∀ (f:Nat) (xs:List (List D)),(∀ r ∈ xs,r.length ≤ n)→xs.length + n < f→ze8 obj f (xs.map ofDs)=some xs
 | 0,xs,_,h=>by omega
 | f + 1,[],_,_=>rfl
 | f + 1,r :: xs,hr,h=>by
  simp only [List.length_cons] at h
  have h1:=zlt obj f r (by have:=hr r (by simp); omega)
  have h2:=zju obj n f xs (fun r h=>hr r (List.mem_cons_of_mem _ h)) (by omega)
  simp only [Qb,ze8,h1,h2]
theorem zvc {obj:Nat→Option Obj}{id v sz off len n:Nat}{xs:List (List D)}(ho:obj id=some (.arr v sz (xs.map ofDs)))(hr:∀ r ∈ xs,r.length ≤ n)(hn:xs.length + n < 4000)(hl:off + len ≤ xs.length) :
  V.lend obj far (.arr id v off len)=some (.l sz ((xs.drop off).take len)):=by
 show (match obj id with
  | some (.arr ver' sz' ys)=>if v=ver'∧off + len ≤ ys.length then match ze8 obj 4095 ys with
    | some ds=>some (D.l sz' ((ds.drop off).take len))
    | none=>none
   else none
  | _=>none)=_
 rw [ho]
 simp only [Qf,hl,and_self,if_true,zju obj n 4095 xs hr (by omega)]
section
variable (E:Nat→Option Fn) (Q:Ex→St→Prop)
theorem Ze4 (a b:CCode)(s:St):WX E (.seq a b) s Q=WX E a s (z8w E b Q):=by
 refine propext ⟨fun ⟨ex,s',h1,h2⟩=>?_,zac⟩
 rw [zv1] at h1
 split at h1
 ·rename_i s1 ha
  exact ⟨.normal,s1,ha,ex,s',h1,h2⟩
 ·rename_i hne
  refine ⟨ex,s',h1, ?_⟩
  cases ex with
  | normal=>exact absurd h1 (hne s')
  | exit id=>exact h2
  | ret=>exact h2
theorem z7w (s:St):WX E .skip s Q=Q .normal s:=by
 refine propext ⟨fun ⟨ex,s',h1,h2⟩=>?_,zay⟩
 rw [zzv] at h1; cases h1; exact h2
theorem z7x (id:Nat)(s:St):WX E (.exit id) s Q=Q (.exit id) s:=by
 refine propext ⟨fun ⟨ex,s',h1,h2⟩=>?_,zb9⟩
 rw [zzw] at h1; cases h1; exact h2
theorem Ze5 (s:St):WX E .ret s Q=Q .ret s:=by
 refine propext ⟨fun ⟨ex,s',h1,h2⟩=>?_,zap⟩
 rw [z6i] at h1; cases h1; exact h2
theorem z2x (id:Nat)(c:CCode)(s:St):WX E (.block id c) s Q=WX E c s (ziy id Q):=by
 refine propext ⟨fun ⟨ex,s',h1,h2⟩=>?_,za2⟩
 rw [zka] at h1
 cases hc:lx E c s with
 | none=>rw [hc] at h1; cases h1
 | some x =>
  obtain ⟨ex1,s1⟩:=x
  rw [hc] at h1
  refine ⟨ex1,s1,hc, ?_⟩
  cases ex1 with
  | normal=>cases h1; exact h2
  | ret=>cases h1; exact h2
  | exit id' =>
   simp only at h1
   simp only [ziy]
   split at h1
   ·rename_i e; cases h1; rw [if_pos e]; exact h2
   ·rename_i e; cases h1; rw [if_neg e]; exact h2
def z2y (v:V)(p q:Prop):Prop:=match v with
 | .d (.b x)=>if x=true then p else q
 | _=>False
theorem z7y (c:A)(a b:CCode)(tm:List (Nat × V))(hp:List (Option Obj)):WX E (.cond c a b) ⟨tm,hp⟩ Q=z2y (evT tm c) (WX E a ⟨tm,hp⟩ Q) (WX E b ⟨tm,hp⟩ Q):=by
 have he:(⟨tm,hp⟩:St).ev c=evT tm c:=congrFun (zmx tm hp) c
 refine propext ⟨fun ⟨ex,s',h1,h2⟩=>?_,fun h=>?_⟩
 ·rw [zuj,he] at h1
  split at h1
  ·rename_i e; rw [e]; exact ⟨ex,s',h1,h2⟩
  ·rename_i e; rw [e]; exact ⟨ex,s',h1,h2⟩
  ·cases h1
 ·unfold z2y at h
  split at h
  ·rename_i x e
   cases x with
   | true=>exact zaf true (by rw [he,e]) (fun _=>h) (fun h=>by cases h)
   | false=>exact zaf false (by rw [he,e]) (fun h=>by cases h) (fun _=>h)
  ·exact h.elim
theorem zy0 {ops:List CO}{tm:List (Nat × V)}{hp:List (Option Obj)}(h:go (lcall E) (fun s _=>Q .normal s) hp.length ops 0 tm (hp++more (za8 ops)) []):WX E (.region false ops) ⟨tm,hp⟩ Q:=by
 refine zaa (fun K hK=>?_)
 have mono:∀ (ops:List CO) (j:Nat) (s:St) (es:List Foot),rgo (lcall E) hp.length ops j s es (fun s _=>Q .normal s)→rgo (lcall E) hp.length ops j s es K:=by
  intro ops
  induction ops with
  | nil=>intro j s es h; exact hK _ _ h
  | cons o r ih =>
   intro j s es h
   simp only [rgo] at h ⊢
   split at h
   ·exact h.elim
   ·exact ih _ _ _ h
 exact mono _ _ _ _ h
end
open Go
theorem zy1 {C:zbg}{base:Nat}:∀ (ops:List CO) (j:Nat) (s:St) (es:List Foot) (K:St→List Foot→Prop) (s':St) (es':List Eff),zdu C base ops j s=some (s',es')→K s' (es.reverse++es'.map Eff.foot)→rgo C base ops j s es K
 | [],j,s,es,K,s',es',h,hk=>by
  simp only [zdu,Qa,Qj] at h
  obtain ⟨rfl,rfl⟩:=h
  simpa [rgo] using hk
 | o :: r,j,s,es,K,s',es',h,hk=>by
  simp only [zdu] at h
  simp only [rgo]
  split at h
  ·cases h
  ·rename_i e he
   split at h
   ·rename_i s2 es2 hes
    simp only [Qa,Qj] at h
    obtain ⟨rfl,rfl⟩:=h
    rw [he]
    exact zy1 r _ _ (e.foot :: es) K s2 es2 hes (by simpa only [List.reverse_cons,List.append_assoc,Qb,List.singleton_append] using hk)
   ·cases h
section
variable (E:Nat→Option Fn) (Q:Ex→St→Prop)
theorem Ze6 (ops:List CO)(tm:List (Nat × V))(hp:List (Option Obj)):WX E (.region false ops) ⟨tm,hp⟩ Q=go (lcall E) (fun s _=>Q .normal s) hp.length ops 0 tm (hp++more (za8 ops)) []:=by
 refine propext ⟨fun ⟨ex,s',h1,h2⟩=>?_,zy0 E Q⟩
 rw [zhv] at h1
 split at h1
 ·rename_i s2 hs
  simp only [Qa,Qj] at h1
  obtain ⟨rfl,rfl⟩:=h1
  unfold zb6 at hs
  simp only [Qm,if_false] at hs
  split at hs
  ·rename_i s3 es3 he
   simp only [Qa] at hs
   subst hs
   unfold go
   rw [zlf]
   exact zy1 ops 0 _ [] _ _ _ he h2
  ·cases hs
 ·cases h1
theorem z7z (ops:List CO)(tm:List (Nat × V))(hp:List (Option Obj)):WX E (.region true ops) ⟨tm,hp⟩ Q=go (lcall E) (fun s es=>zjj ops es 0=true∧Q .normal s) hp.length ops 0 tm (hp++more (za8 ops)) []:=by
 refine propext ⟨fun ⟨ex,s',h1,h2⟩=>?_,fun h=>?_⟩
 ·rw [zhv] at h1
  split at h1
  ·rename_i s2 hs
   simp only [Qa,Qj] at h1
   obtain ⟨rfl,rfl⟩:=h1
   unfold zb6 at hs
   simp only [if_true] at hs
   split at hs
   ·rename_i s3 es3 he
    split at hs
    ·rename_i hn
     simp only [Qa] at hs
     subst hs
     unfold go
     rw [zlf]
     exact zy1 ops 0 _ [] _ _ _ he ⟨by rw [List.reverse_nil,List.nil_append,zif]; exact hn,h2⟩
    ·cases hs
   ·cases hs
  ·cases h1
 ·obtain ⟨s',es,h1,h2,h3⟩:=zv4 ops 0 _ [] _ h
  refine ⟨.normal,s', ?_,h3⟩
  rw [zhv]
  unfold zb6
  rw [zlf] at h1
  simp only [List.reverse_nil,List.nil_append] at h2
  rw [zif] at h2
  simp only [h1,if_true,h2]
end
def fin (m:Nat)(rets:List Ret)(r:V × List (Option Obj))(ex:Ex)(s:St):Prop:=(ex = .normal ∨ ex = .ret)∧zdw m s rets=some r
theorem zat {E:Nat→Option Fn}{key:Nat}{f:CFn}(h:E key=some (.code f)){args:List V}{hp:List (Option Obj)}{r:V × List (Option Obj)}(k:WX E f.body (zk3 args hp) (fin hp.length f.rets r)):lcall E key args hp=some r:=zbc h k
def Ze7 (m:Nat)(rets:List Ret)(R:V × List (Option Obj)→Prop)(ex:Ex)(s:St):Prop:=(ex = .normal ∨ ex = .ret)∧∃ r,zdw m s rets=some r∧R r
theorem zt2 {E:Nat→Option Fn}{key:Nat}{f:CFn}(h:E key=some (.code f)){args:List V}{hp:List (Option Obj)}{R:V × List (Option Obj)→Prop}(k:WX E f.body (zk3 args hp) (Ze7 hp.length f.rets R)):∃ r,lcall E key args hp=some r∧R r:=zkd h k
def Zau (R:V × List (Option Obj)→Prop):Option (V × List (Option Obj))→Prop
 | some r=>R r
 | none=>False
theorem evQ :
  (∀ (E:Nat→Option Fn) (Q:Ex→St→Prop) (a b:CCode) (s:St),WX E (.seq a b) s Q=WX E a s (z8w E b Q)) ∧
  (∀ (E:Nat→Option Fn) (Q:Ex→St→Prop) (s:St),WX E .skip s Q=Q .normal s) ∧
  (∀ (E:Nat→Option Fn) (Q:Ex→St→Prop) (id:Nat) (s:St),WX E (.exit id) s Q=Q (.exit id) s) ∧
  (∀ (E:Nat→Option Fn) (Q:Ex→St→Prop) (s:St),WX E .ret s Q=Q .ret s) ∧
  (∀ (E:Nat→Option Fn) (Q:Ex→St→Prop) (id:Nat) (c:CCode) (s:St),WX E (.block id c) s Q=WX E c s (ziy id Q)) ∧
  (∀ (E:Nat→Option Fn) (Q:Ex→St→Prop) (c:A) (a b:CCode) (tm:List (Nat × V)) (hp:List (Option Obj)),WX E (.cond c a b) ⟨tm,hp⟩ Q=z2y (evT tm c) (WX E a ⟨tm,hp⟩ Q) (WX E b ⟨tm,hp⟩ Q)) ∧
  (∀ (E:Nat→Option Fn) (Q:Ex→St→Prop) (ops:List CO) (tm:List (Nat × V)) (hp:List (Option Obj)),WX E (.region false ops) ⟨tm,hp⟩ Q=go (lcall E) (fun s _=>Q .normal s) hp.length ops 0 tm (hp++more (za8 ops)) []) ∧
  (∀ (E:Nat→Option Fn) (Q:Ex→St→Prop) (ops:List CO) (tm:List (Nat × V)) (hp:List (Option Obj)),WX E (.region true ops) ⟨tm,hp⟩ Q=go (lcall E) (fun s es=>zjj ops es 0=true∧Q .normal s) hp.length ops 0 tm (hp++more (za8 ops)) []) ∧
  (∀ (E:Nat→Option Fn) (Q:Ex→St→Prop) (b:CCode) (s:St),z8w E b Q .normal s=WX E b s Q) ∧
  (∀ (E:Nat→Option Fn) (Q:Ex→St→Prop) (b:CCode) (id:Nat) (s:St),z8w E b Q (.exit id) s=Q (.exit id) s) ∧
  (∀ (E:Nat→Option Fn) (Q:Ex→St→Prop) (b:CCode) (s:St),z8w E b Q .ret s=Q .ret s) ∧
  (∀ (Q:Ex→St→Prop) (id:Nat) (s:St),ziy id Q .normal s=Q .normal s) ∧
  (∀ (Q:Ex→St→Prop) (id:Nat) (s:St),ziy id Q .ret s=Q .ret s) ∧
  (∀ (Q:Ex→St→Prop) (id id':Nat) (s:St),ziy id Q (.exit id') s=if id'=id then Q .normal s else Q (.exit id') s) ∧
  (∀ (x:Bool) (p q:Prop),z2y (.d (.b x)) p q=if x=true then p else q) ∧
  (∀ (m:Nat) (rets:List Ret) (r:V × List (Option Obj)) (tm:List (Nat × V)) (hp:List (Option Obj)),fin m rets r .normal ⟨tm,hp⟩=(zya m hp (zdv ⟨tm,hp⟩ rets)=some r)) ∧
  (∀ (m:Nat) (rets:List Ret) (r:V × List (Option Obj)) (tm:List (Nat × V)) (hp:List (Option Obj)),fin m rets r .ret ⟨tm,hp⟩=(zya m hp (zdv ⟨tm,hp⟩ rets)=some r)) ∧
  (∀ (m:Nat) (rets:List Ret) (R:V × List (Option Obj)→Prop) (tm:List (Nat × V)) (hp:List (Option Obj)),Ze7 m rets R .normal ⟨tm,hp⟩=Zau R (zya m hp (zdv ⟨tm,hp⟩ rets))) ∧
  (∀ (m:Nat) (rets:List Ret) (R:V × List (Option Obj)→Prop) (tm:List (Nat × V)) (hp:List (Option Obj)),Ze7 m rets R .ret ⟨tm,hp⟩=Zau R (zya m hp (zdv ⟨tm,hp⟩ rets))) ∧
  (∀ (R:V × List (Option Obj)→Prop) (r:V × List (Option Obj)),Zau R (some r)=R r):=by
 have hP:∀ (m:Nat) (rets:List Ret) (R:V × List (Option Obj)→Prop) (tm:List (Nat × V)) (hp:List (Option Obj)),(∃ r,zdw m ⟨tm,hp⟩ rets=some r∧R r)=Zau R (zya m hp (zdv ⟨tm,hp⟩ rets)):=fun m rets R tm hp=>by
  rw [zh8]
  cases zya m hp (zdv ⟨tm,hp⟩ rets) with
  | none=>simp [Zau]
  | some r=>simp [Zau]
 refine ⟨?_, ?_, ?_, ?_, ?_, ?_, ?_, ?_, ?_, ?_, ?_, ?_, ?_, ?_, ?_, ?_, ?_, ?_, ?_, ?_⟩
 ·intro E Q a b s; exact Ze4 E Q a b s
 ·intro E Q s; exact z7w E Q s
 ·intro E Q id s; exact z7x E Q id s
 ·intro E Q s; exact Ze5 E Q s
 ·intro E Q id c s; exact z2x E Q id c s
 ·intro E Q c a b tm hp; exact z7y E Q c a b tm hp
 ·intro E Q ops tm hp; exact Ze6 E Q ops tm hp
 ·intro E Q ops tm hp; exact z7z E Q ops tm hp
 ·intro E Q b s; rfl
 ·intro E Q b id s; rfl
 ·intro E Q b s; rfl
 ·intro Q id s; rfl
 ·intro Q id s; rfl
 ·intro Q id id' s; rfl
 ·intro x p q; rfl
 ·intro m rets r tm hp; simp [fin,zh8]
 ·intro m rets r tm hp; simp [fin,zh8]
 ·intro m rets R tm hp; unfold Ze7; rw [hP]; simp
 ·intro m rets R tm hp; unfold Ze7; rw [hP]; simp
 ·intro R r; rfl
open Go
section
variable {E:Nat→Option Fn} {Q:Ex→St→Prop} {tm:List (Nat × V)} {hp:List (Option Obj)}
def rg4 (K:Ex→St→Prop)(tm:List (Nat × V))(l:Nat)(h:List (Option Obj))(key:Nat)(caps:List V):Option Ex→Prop
 | some ex=>K ex ⟨tm,h.set l (some (.lp 1 key caps))⟩
 | none=>False
def rg3 (K:Ex→St→Prop)(tm:List (Nat × V))(l:Nat)(h:List (Option Obj)):Option Obj→Prop
 | some (.lp j key caps)=>rg4 K tm l h key caps (z1w j)
 | _=>False
def rg2 (K:Ex→St→Prop)(tm:List (Nat × V))(h0:List (Option Obj))(l:Nat):Option (V × List Nat × List (Option Obj) × List (Option Obj))→Prop
 | some (_,is,os,ns)=>rg3 K tm l (za6 (za6 h0 is os) (List.range' (l + 1) ns.length) ns) (zbk (za6 (za6 h0 is os) (List.range' (l + 1) ns.length) ns) l)
 | none=>False
def rg1 (C:zbg)(K:Ex→St→Prop)(tm:List (Nat × V))(h0:List (Option Obj))(l res:Nat):Option (Nat × List V)→Prop
 | some (k,vs)=>rg2 K tm h0 l (zrv C (zbk h0) k res (l + 1) (V.handAll vs))
 | none=>False
def zi5 (tm:List (Nat × V)):List Nat→List V
 | []=>[]
 | t :: r=>zba tm t :: zi5 tm r
theorem zvd (tm:List (Nat × V)):∀ (ks:List Nat),ks.map (zba tm)=zi5 tm ks
 | []=>rfl
 | t :: r=>by simp only [Qb,zi5,zvd tm r]
def zlu:List (Nat × Nat)→St→St
 | [],s=>s
 | t :: r,s=>zlu r (zd2 s t)
def rg0 (C:zbg)(K:Ex→St→Prop)(f:A)(key res:Nat)(ks:List Nat):St→Prop
 | ⟨tm,hp⟩=>rg1 C K tm (hp++some (.lp 0 key (zi5 tm ks)) :: more res) hp.length res (zeu (evT tm f) (.fn key [.map hp.length] []))
def Zkt (K:Ex→St→Prop):Option (Ex × St)→Prop
 | some (ex,s)=>K ex s
 | none=>False
theorem Ze8 (C:zbg)(K:Ex→St→Prop)(f:A)(key res:Nat)(ks:List Nat)(tm:List (Nat × V))(hp:List (Option Obj)):Zkt K (zf2 C f key ks res ⟨tm,hp⟩)=rg0 C K f key res ks ⟨tm,hp⟩:=by
 simp only [rg0]
 unfold zf2
 have hcaps:List.map (St.get ⟨tm,hp⟩) ks=zi5 tm ks:=zvd tm ks
 have hev:St.ev ⟨tm,hp⟩ f=evT tm f:=by rw [zmx]
 simp only [hcaps,hev,← zlf]
 cases hr:zeu (evT tm f) (.fn key [.map hp.length] []) with
 | none=>rfl
 | some x =>
  obtain ⟨k,vs⟩:=x
  simp only [rg1]
  have hob:St.obj ⟨tm,hp++some (.lp 0 key (zi5 tm ks)) :: more res⟩=zbk (hp++some (.lp 0 key (zi5 tm ks)) :: more res):=rfl
  simp only [hob,zhm]
  have hh:Md.hands .keep vs=V.handAll vs:=rfl
  rw [hh]
  cases he:zrv C (zbk (hp++some (.lp 0 key (zi5 tm ks)) :: more res)) k res (hp.length + 1) (V.handAll vs) with
  | none=>rfl
  | some x =>
   obtain ⟨r,is,os,ns⟩:=x
   simp only [rg2]
   have hon:(⟨none,r,is,true,os,hp.length + 1,ns⟩:Eff).on ⟨tm,hp++some (.lp 0 key (zi5 tm ks)) :: more res⟩=⟨tm,za6 (za6 (hp++some (.lp 0 key (zi5 tm ks)) :: more res) is os) (List.range' (hp.length + 1) ns.length) ns⟩:=rfl
   simp only [hon]
   generalize za6 (za6 (hp++some (.lp 0 key (zi5 tm ks)) :: more res) is os) (List.range' (hp.length + 1) ns.length) ns=H
   have hob2:St.obj ⟨tm,H⟩ hp.length=zbk H hp.length:=rfl
   simp only [hob2]
   cases ho:zbk H hp.length with
   | none=>rfl
   | some o =>
    cases o with
    | lp j key' caps =>
     simp only [rg3]
     cases hx:z1w j <;> rfl
    | _=>rfl
theorem z2z (E:Nat→Option Fn)(Q:Ex→St→Prop)(own:List (Nat × Nat))(f:A)(key res:Nat)(ks:List Nat)(s:St):WX E (.range own f key ks res) s Q=rg0 (lcall E) Q f key res ks (zlu own s):=by
 have hb:∀ (l:List (Nat × Nat)) (s:St),l.foldl zd2 s=zlu l s:=by
  intro l
  induction l with
  | nil=>intro s; rfl
  | cons t l ih=>intro s; exact ih _
 unfold WX
 rw [z31,hb]
 cases zlu own s with
 | mk tm hp =>
  rw [← Ze8]
  cases zf2 (lcall E) f key ks res ⟨tm,hp⟩ with
  | none=>exact propext ⟨fun ⟨_,_,h,_⟩=>by (cases h),fun h=>h.elim⟩
  | some x =>
   obtain ⟨ex,s'⟩:=x
   exact propext ⟨fun ⟨_,_,h,k⟩=>by cases h; exact k,fun h=>⟨ex,s',rfl,h⟩⟩
def rd4 (K:Ex→St→Prop)(tm:List (Nat × V))(hp:List (Option Obj))(id:Nat):Option Obj→Prop
 | some (.lp 0 k c)=>K .normal ⟨tm,hp.set id (some (.lp 1 k c))⟩
 | _=>False
def rdA (id:Nat)(K:Ex→St→Prop):Ex→St→Prop
 | .normal,⟨tm,hp⟩=>rd4 K tm hp id (zbk hp id)
 | _,_=>False
def rd5 (m id:Nat)(ex:Ex)(hp:List (Option Obj))(r:V × List (Option Obj)):Option Obj→Prop
 | some (.lp 1 k c)=>zya m (hp.set id (some (.lp (z26 ex) k c))) (some [.d (.b (decide (ex = .normal)))])=some r
 | _=>False
def rdB (m id:Nat)(r:V × List (Option Obj)):Ex→St→Prop
 | ex,⟨tm,hp⟩=>rd5 m id ex hp r (zbk hp id)
end
theorem evG :
  (∀ (j key:Nat) (cs:List V),Obj.refs (some (.lp j key cs))=V.refsAll cs) ∧
  (∀ (f sh:Nat→Nat) (s j key:Nat) (cs:List V),Obj.ren f sh s (.lp j key cs) = .lp j key (V.renAll f sh cs)) ∧
  (∀ (j key:Nat) (cs:List V),zoq (some (.lp j key cs))=0) ∧
  (∀ (n j key:Nat) (cs:List V),Obj.under n (some (.lp j key cs))=V.underAll n cs) ∧
  (∀ (h:List (Option Obj)) (j key:Nat) (cs:List V),zcf h (some (.lp j key cs))=some (.lp j key (cs.map (zft h)))) ∧
  (∀ (k id:Nat),V.hand (.fn k [.map id] [])=some (.fn k [.map id] [])) ∧
  (∀ (k id off:Nat) (r:List V),V.hand (.fn k [] (.ptr id off :: r))=match V.handAll (.ptr id off :: r) with | some c=>some (.fn k [] c) | none=>none) ∧
  (∀ (n k id:Nat),V.under n (.fn k [.map id] [])=decide (id < n)) ∧
  (∀ (h:List (Option Obj)) (k id:Nat),zek h (.fn k [.map id] []) = .fn k [.map id] []) ∧
  (∀ (k id:Nat),V.fine (.fn k [.map id] [])=true) ∧
  (∀ (tm:List (Nat × V)),zi5 tm []=[]) ∧
  (∀ (tm:List (Nat × V)) (t:Nat) (r:List Nat),zi5 tm (t :: r)=zba tm t :: zi5 tm r) ∧
  (∀ (s:St),zlu [] s=s) ∧
  (∀ (s:St) (t:Nat × Nat) (r:List (Nat × Nat)),zlu (t :: r) s=zlu r (zd2 s t)) ∧
  (∀ (C:zbg) (K:Ex→St→Prop) (f:A) (key res:Nat) (ks:List Nat) (tm:List (Nat × V)) (hp:List (Option Obj)),rg0 C K f key res ks ⟨tm,hp⟩=rg1 C K tm (hp++some (.lp 0 key (zi5 tm ks)) :: more res) hp.length res (zeu (evT tm f) (.fn key [.map hp.length] []))) ∧
  (∀ (C:zbg) (K:Ex→St→Prop) (tm:List (Nat × V)) (h0:List (Option Obj)) (l res k:Nat) (vs:List V),rg1 C K tm h0 l res (some (k,vs))=rg2 K tm h0 l (zrv C (zbk h0) k res (l + 1) (V.handAll vs))) ∧
  (∀ (K:Ex→St→Prop) (tm:List (Nat × V)) (h0:List (Option Obj)) (l:Nat) (r:V) (is:List Nat) (os ns:List (Option Obj)),rg2 K tm h0 l (some (r,is,os,ns))=rg3 K tm l (za6 (za6 h0 is os) (List.range' (l + 1) ns.length) ns) (zbk (za6 (za6 h0 is os) (List.range' (l + 1) ns.length) ns) l)) ∧
  (∀ (K:Ex→St→Prop) (tm:List (Nat × V)) (l:Nat) (h:List (Option Obj)) (j key:Nat) (caps:List V),rg3 K tm l h (some (.lp j key caps))=rg4 K tm l h key caps (z1w j)) ∧
  (∀ (K:Ex→St→Prop) (tm:List (Nat × V)) (l:Nat) (h:List (Option Obj)) (key:Nat) (caps:List V) (ex:Ex),rg4 K tm l h key caps (some ex)=K ex ⟨tm,h.set l (some (.lp 1 key caps))⟩) ∧
  (z1w 0=some .normal)∧(z1w 2=some .ret)∧(∀ (j:Nat),z1w (j + 3)=some (.exit j)) ∧
  (z26 .normal=0)∧(z26 .ret=2)∧(∀ (j:Nat),z26 (.exit j)=j + 3) ∧
  (∀ (k:Nat) (a c:List D) (y:V),zeu (.d (.f k a c)) y=some (k,ofDs a++[y]++ofDs c)) ∧
  (∀ (k:Nat) (c:List V) (y:V),zeu (.fn k [] c) y=some (k,[]++[y]++c)) ∧
  (∀ (K:Ex→St→Prop) (id:Nat) (tm:List (Nat × V)) (hp:List (Option Obj)),rdA id K .normal ⟨tm,hp⟩=rd4 K tm hp id (zbk hp id)) ∧
  (∀ (K:Ex→St→Prop) (id k:Nat) (c:List V) (tm:List (Nat × V)) (hp:List (Option Obj)),rd4 K tm hp id (some (.lp 0 k c))=K .normal ⟨tm,hp.set id (some (.lp 1 k c))⟩) ∧
  (∀ (m id:Nat) (r:V × List (Option Obj)) (ex:Ex) (tm:List (Nat × V)) (hp:List (Option Obj)),rdB m id r ex ⟨tm,hp⟩=rd5 m id ex hp r (zbk hp id)) ∧
  (∀ (m id:Nat) (r:V × List (Option Obj)) (ex:Ex) (hp:List (Option Obj)) (k:Nat) (c:List V),rd5 m id ex hp r (some (.lp 1 k c))=(zya m (hp.set id (some (.lp (z26 ex) k c))) (some [.d (.b (decide (ex = .normal)))])=some r)) ∧
  (∀ tm hp (t:Nat),z1x ⟨tm,hp⟩ (.raw t)=V.rawH (zba tm t)) ∧
  (∀ (sz:Nat),V.rawH (.nil sz)=some (.nil sz))∧(∀ (x:D),V.rawH (.d x)=some (.d x))∧(∀ (id ver off len:Nat),V.rawH (.arr id ver off len)=some (.arr id ver off len))∧(∀ (id ver sz:Nat) (xs:List (List D)),V.rawH (.own id ver sz xs)=some (.d (.l sz xs))) ∧
  (V.rawAll []=some [])∧(∀ (x:V) (r:List V),V.rawAll (x :: r)=z2u (V.rawH x) (V.rawAll r)) ∧
  (∀ (t:Nat) (ts:List Nat) (v:V) (vs:List V),zo7 (t :: ts) (v :: vs)=(t,v) :: zo7 ts vs) ∧
  (zo7 [] []=[]):=by
 refine ⟨?_, ?_, ?_, ?_, ?_, ?_, ?_, ?_, ?_, ?_, ?_, ?_, ?_, ?_, ?_, ?_, ?_, ?_, ?_,rfl,rfl, ?_,rfl,rfl, ?_, ?_, ?_, ?_, ?_, ?_, ?_, ?_, ?_, ?_, ?_, ?_,rfl, ?_, ?_,rfl⟩
 ·intros; rfl
 ·intros; rfl
 ·intros; rfl
 ·intros; rfl
 ·intros; rfl
 ·intros; simp [V.hand,V.toDs,V.toD,V.handAll]
 ·intro k id off r
  simp only [V.hand]
  have h1:V.toDs (.ptr id off :: r)=none:=by simp [V.toDs,V.toD]
  have h2:V.toDs []=some []:=rfl
  simp only [h1,h2]
  have h3:V.handAll []=some []:=rfl
  rw [h3]
  cases V.handAll (.ptr id off :: r) <;> rfl
 ·intros; simp [V.under,V.underAll]
 ·intros; simp [zek,V.fine,V.fineAll]
 ·intros; simp [V.fine,V.fineAll]
 all_goals first | (intros; rfl) | (intro x r; simp only [V.rawAll]; cases V.rawH x <;> cases V.rawAll r <;> rfl)
open Go
def Ze9 (k:IntKind):Option Int→Option D
 | some y=>some (.i k y)
 | none=>none
def Zkf (neg:Bool):Option (List D)→Option (List D)→List CK→Option V
 | some x,some y,ks=>match ze7 ks x y with | some q=>some (.d (.b (if neg then !q else q))) | none=>none
 | _,_,_=>none
def Zkg (neg:Bool):Option Bool→Option V
 | some q=>some (.d (.b (if neg then !q else q)))
 | none=>none
def Zkh:Option Bool→Option Bool→Option Bool
 | some a,some b=>some (a && b)
 | _,_=>none
def Zjf (n:Nat):Option (List D)→Option (List D)
 | some kd=>if kd.length=n then some kd else none
 | none=>none
def lkA (ks:List CK)(ok:Bool)(z:V)(kvs:List (List D × V)):Option (List D)→Option V
 | some kd=>match zgm ks kd kvs with | some n=>some (got ok z kvs[n]?) | none=>none
 | none=>none
def lkB (ok:Bool)(z:V)(kvs:List (List D × V)):Option Nat→Option V
 | some n=>some (got ok z kvs[n]?)
 | none=>none
def lkO (ag:Bool)(ks:List CK)(ok:Bool)(z k:V):Option Obj→Option V
 | some (.map kvs)=>lkA ks ok z kvs (zo5 ag ks.length k)
 | _=>none
def Zfa (kvs:List (List D × V))(kd:List D)(v:V)(n:Nat):List (List D × V):=if n < kvs.length then kvs.set n (kd,v) else kvs++[(kd,v)]
def muB (hp:List (Option Obj))(id:Nat)(kvs:List (List D × V))(kd:List D)(v:V):Option Nat→Option (List (Option Obj))
 | some n=>some (hp.set id (some (.map (Zfa kvs kd v n))))
 | none=>none
def muA (ks:List CK)(hp:List (Option Obj))(id:Nat)(kvs:List (List D × V))(v:V):Option (List D)→Option (List (Option Obj))
 | some kd=>muB hp id kvs kd v (zgm ks kd kvs)
 | none=>none
def muO (ag:Bool)(ks:List CK)(hp:List (Option Obj))(id:Nat)(k v:V):Option Obj→Option (List (Option Obj))
 | some (.map kvs)=>muA ks hp id kvs v (zo5 ag ks.length k)
 | _=>none
def Zjg (hp:List (Option Obj))(id:Nat)(kvs:List (List D × V)):Option Nat→Option (List (Option Obj))
 | some n=>some (hp.set id (some (.map (kvs.eraseIdx n))))
 | none=>none
def Zig (ks:List CK)(hp:List (Option Obj))(id:Nat)(kvs:List (List D × V)):Option (List D)→Option (List (Option Obj))
 | some kd=>Zjg hp id kvs (zgm ks kd kvs)
 | none=>none
def Zih (ag:Bool)(ks:List CK)(hp:List (Option Obj))(id:Nat)(k:V):Option Obj→Option (List (Option Obj))
 | some (.map kvs)=>Zig ks hp id kvs (zo5 ag ks.length k)
 | _=>none
def Zki:Option Obj→Option V
 | some (.map kvs)=>some (.d (.i .i64 kvs.length))
 | _=>none
section
variable {hp:List (Option Obj)}
theorem z70 (ag:Bool)(ks:List CK)(ok:Bool)(z:V)(id:Nat)(k:V):lkF ag ks ok z hp (.map id) k=lkO ag ks ok z k (zbk hp id):=by
 simp only [lkF,zco,Qb,Qc]
 cases zbk hp id with
 | none=>rfl
 | some o =>
  cases o with
  | map kvs =>
   simp only [zqe,lkO]
   cases zo5 ag ks.length k with
   | none=>rfl
   | some kd=>simp only [lkA]; cases zgm ks kd kvs <;> rfl
  | _=>rfl
theorem z71 (ag:Bool)(ks:List CK)(ok:Bool)(z:V)(k:V):lkF ag ks ok z hp (.d .nm) k=lkA ks ok z [] (zo5 ag ks.length k):=by
 simp only [lkF,zco,Qc,zqe]
 cases zo5 ag ks.length k <;> rfl
theorem z72 (ag:Bool)(ks:List CK)(id:Nat)(k v:V):muF ag ks hp (.map id) k v=muO ag ks hp id k v (zbk hp id):=by
 simp only [muF,zco,Qb,Qc]
 cases zbk hp id with
 | none=>rfl
 | some o =>
  cases o with
  | map kvs =>
   simp only [zk1,muO]
   cases zo5 ag ks.length k with
   | none=>rfl
   | some kd=>simp only [muA]; cases zgm ks kd kvs <;> rfl
  | _=>rfl
theorem z22 (ag:Bool)(ks:List CK)(id:Nat)(k:V):Zar ag ks hp (.map id) k=Zih ag ks hp id k (zbk hp id):=by
 simp only [Zar,zco,Qb,Qc]
 cases zbk hp id with
 | none=>rfl
 | some o =>
  cases o with
  | map kvs =>
   simp only [zhg,Zih]
   cases zo5 ag ks.length k with
   | none=>rfl
   | some kd=>simp only [Zig]; cases zgm ks kd kvs <;> rfl
  | _=>rfl
end
theorem evK :
  (∀ (k:Nat) (a c:List V),V.fine (.fn k a c)=(V.fineAll a && V.fineAll c))∧(V.fineAll []=true)∧(∀ (x:V) (r:List V),V.fineAll (x :: r)=(V.fine x && V.fineAll r)) ∧
  (∀ (i o:Nat),V.fine (.ptr i o)=true)∧(∀ (i:Nat),V.fine (.map i)=true)∧(∀ (x:D),V.fine (.d x)=true)∧(∀ (n k:Nat) (a c:List V),V.under n (.fn k a c)=(V.underAll n a && V.underAll n c)) ∧
  (∀ C K b r j tm hp es (d p k:Nat) (f c:List A),go C K b (⟨some d,.mkf k f c false,none,p⟩ :: r) j tm hp es=go C K b r j ((d,.fn k (evL tm f) (evL tm c)) :: tm) hp (⟨[],false,b + j,0⟩ :: es)) ∧
  (∀ C K b r j tm hp es (d p k:Nat) (c:List A),go C K b (⟨some d,.mkf k [] c true,none,p⟩ :: r) j tm hp es=(zir (zbj (evL tm c))=true∧zyx C K b d k 0 r j tm hp es (evL tm c) (zr0 (evL tm c) hp))) ∧
  (∀ C K b r j tm hp es (d k:Nat) (vs:List V) (c:List D) (os:List (Option Obj)),zyx C K b d k 0 r j tm hp es vs (some (c,os))=go C K b r j ((d,.d (.f k [] c)) :: tm) (za6 hp (zbj vs) os) (⟨zbj vs,true,b + j,0⟩ :: es)) ∧
  (∀ (hp:List (Option Obj)),zr0 [] hp=some ([],[])) ∧
  (∀ (hp:List (Option Obj)) (id off:Nat) (vs:List V),zr0 (.ptr id off :: vs) hp=z7q id off vs hp (zbk hp id)) ∧
  (∀ (hp:List (Option Obj)) (x:D) (vs:List V),zr0 (.d x :: vs) hp=Zid (some x) (zr0 vs hp)) ∧
  (∀ (hp:List (Option Obj)) (id off:Nat) (vs:List V) (cs:List V),z7q id off vs hp (some (.box cs))=Zic off (.box cs) (V.toDs cs) (zr0 vs hp)) ∧
  (∀ (off:Nat) (o:Obj) (ds c:List D) (os:List (Option Obj)),Zic off o (some ds) (some (c,os))=some (.q ds off :: c,some (.cst ds) :: os)) ∧
  (∀ (x:D) (c:List D) (os:List (Option Obj)),Zid (some x) (some (c,os))=some (x :: c,os)) ∧
  (zbj []=[])∧(∀ (id off:Nat) (r:List V),zbj (.ptr id off :: r)=id :: zbj r)∧(∀ (x:D) (r:List V),zbj (.d x :: r)=zbj r) ∧
  (zir []=true)∧(∀ (x:Nat) (r:List Nat),zir (x :: r)=(!r.contains x && zir r)) ∧
  (∀ C K b r j tm hp es (d p:Nat),go C K b (⟨some d,.mkm,none,p⟩ :: r) j tm hp es=go C K b r (j + 1) ((d,.map (b + j)) :: tm) (hp.set (b + j) (some (.map []))) (⟨[],false,b + j,1⟩ :: es)) ∧
  (∀ C K b r j tm hp es (d p:Nat) (ag:Bool) (ks:List CK) (ok:Bool) (z:V) (m k:A),go C K b (⟨some d,.lk ag ks ok z m k,none,p⟩ :: r) j tm hp es=goV C K b d r j tm hp es (zco (evT tm m)) (lkF ag ks ok z hp (evT tm m) (evT tm k))) ∧
  (∀ C K b r j tm hp es (dst:Option Nat) (p:Nat) (ag:Bool) (ks:List CK) (m k v:A),go C K b (⟨dst,.mu ag ks m k v,none,p⟩ :: r) j tm hp es=goH C K b dst r j tm es (zco (evT tm m)) (muF ag ks hp (evT tm m) (evT tm k) (evT tm v))) ∧
  (∀ C K b r j tm hp es (dst:Option Nat) (p:Nat) (ag:Bool) (ks:List CK) (m k:A),go C K b (⟨dst,.del ag ks m k,none,p⟩ :: r) j tm hp es=goH C K b dst r j tm es (zco (evT tm m)) (Zar ag ks hp (evT tm m) (evT tm k))) ∧
  (∀ (id:Nat),zco (.map id)=[id])∧(∀ (x:D),zco (.d x)=[]) ∧
  (∀ (hp:List (Option Obj)) (ag:Bool) (ks:List CK) (ok:Bool) (z:V) (id:Nat) (k:V),lkF ag ks ok z hp (.map id) k=lkO ag ks ok z k (zbk hp id)) ∧
  (∀ (hp:List (Option Obj)) (ag:Bool) (ks:List CK) (ok:Bool) (z k:V),lkF ag ks ok z hp (.d .nm) k=lkA ks ok z [] (zo5 ag ks.length k)) ∧
  (∀ (ag:Bool) (ks:List CK) (ok:Bool) (z k:V) (kvs:List (List D × V)),lkO ag ks ok z k (some (.map kvs))=lkA ks ok z kvs (zo5 ag ks.length k)) ∧
  (∀ (ks:List CK) (ok:Bool) (z:V) (kvs:List (List D × V)) (kd:List D),lkA ks ok z kvs (some kd)=lkB ok z kvs (zgm ks kd kvs)) ∧
  (∀ (ok:Bool) (z:V) (kvs:List (List D × V)) (n:Nat),lkB ok z kvs (some n)=some (got ok z kvs[n]?)) ∧
  (∀ (z:V) (p:List D × V),got true z (some p) = .tup [p.2,.d (.b true)])∧(∀ (z:V) (p:List D × V),got false z (some p)=p.2) ∧
  (∀ (z:V),got true z none = .tup [z,.d (.b false)])∧(∀ (z:V),got false z none=z) ∧
  (∀ (hp:List (Option Obj)) (ag:Bool) (ks:List CK) (id:Nat) (k v:V),muF ag ks hp (.map id) k v=muO ag ks hp id k v (zbk hp id)) ∧
  (∀ (ag:Bool) (ks:List CK) (hp:List (Option Obj)) (id:Nat) (k v:V) (kvs:List (List D × V)),muO ag ks hp id k v (some (.map kvs))=muA ks hp id kvs v (zo5 ag ks.length k)) ∧
  (∀ (ks:List CK) (hp:List (Option Obj)) (id:Nat) (kvs:List (List D × V)) (v:V) (kd:List D),muA ks hp id kvs v (some kd)=muB hp id kvs kd v (zgm ks kd kvs)) ∧
  (∀ (hp:List (Option Obj)) (id:Nat) (kvs:List (List D × V)) (kd:List D) (v:V) (n:Nat),muB hp id kvs kd v (some n)=some (hp.set id (some (.map (Zfa kvs kd v n))))) ∧
  (∀ (hp:List (Option Obj)) (ag:Bool) (ks:List CK) (id:Nat) (k:V),Zar ag ks hp (.map id) k=Zih ag ks hp id k (zbk hp id)) ∧
  (∀ (ag:Bool) (ks:List CK) (hp:List (Option Obj)) (id:Nat) (k:V) (kvs:List (List D × V)),Zih ag ks hp id k (some (.map kvs))=Zig ks hp id kvs (zo5 ag ks.length k)) ∧
  (∀ (ks:List CK) (hp:List (Option Obj)) (id:Nat) (kvs:List (List D × V)) (kd:List D),Zig ks hp id kvs (some kd)=Zjg hp id kvs (zgm ks kd kvs)) ∧
  (∀ (hp:List (Option Obj)) (id:Nat) (kvs:List (List D × V)) (n:Nat),Zjg hp id kvs (some n)=some (hp.set id (some (.map (kvs.eraseIdx n))))) ∧
  (∀ (n:Nat) (cs:List V),zo5 true n (.agg cs)=Zjf n (V.toDs cs))∧(∀ (n:Nat) (x:D),zo5 false n (.d x)=Zjf n (some [x])) ∧
  (∀ (n:Nat) (kd:List D),Zjf n (some kd)=if kd.length=n then some kd else none) ∧
  (∀ C K b r j tm hp es (d p:Nat) (x:A),go C K b (⟨some d,.len 2 x,none,p⟩ :: r) j tm hp es=goV C K b d r j tm hp es (zco (evT tm x)) (Zie hp (evT tm x))) ∧
  (∀ (hp:List (Option Obj)) (id:Nat),Zie hp (.map id)=Zki (zbk hp id))∧(∀ (kvs:List (List D × V)),Zki (some (.map kvs))=some (.d (.i .i64 kvs.length))) ∧
  (∀ C K b r j tm hp es (d p:Nat) (neg:Bool) (x:A),go C K b (⟨some d,.nilm neg x,none,p⟩ :: r) j tm hp es=goV C K b d r j tm hp es [] (zyy neg (evT tm x))) ∧
  (∀ (neg:Bool) (id:Nat),zyy neg (.map id)=some (.d (.b (if neg then !false else false))))∧(∀ (neg:Bool),zyy neg (.d .nm)=some (.d (.b (if neg then !true else true)))) ∧
  (∀ C K b r j tm hp es (d p:Nat) (ks:List CK) (neg:Bool) (x y:A),go C K b (⟨some d,.eqa ks neg x y,none,p⟩ :: r) j tm hp es=goV C K b d r j tm hp es [] (Zew ks neg (evT tm x) (evT tm y))) ∧
  (∀ (ks:List CK) (neg:Bool) (x y:List V),Zew ks neg (.agg x) (.agg y)=Zkf neg (V.toDs x) (V.toDs y) ks) ∧
  (∀ (neg:Bool) (x y:List D) (ks:List CK),Zkf neg (some x) (some y) ks=Zkg neg (ze7 ks x y)) ∧
  (∀ (neg q:Bool),Zkg neg (some q)=some (.d (.b (if neg then !q else q)))) ∧
  (ze7 [] [] []=some true)∧(∀ (k:CK) (ks:List CK) (x y:D) (xs ys:List D),ze7 (k :: ks) (x :: xs) (y :: ys)=Zkh (eqD k x y) (ze7 ks xs ys)) ∧
  (∀ (a b:Bool),Zkh (some a) (some b)=some (a && b)) ∧
  (∀ (k:IntKind) (x y:Int),eqD .i (.i k x) (.i k y)=some (x == y))∧(∀ (x y:List UInt8),eqD .s (.s x) (.s y)=some (x == y))∧(∀ (x y:Bool),eqD .b (.b x) (.b y)=some (x == y)) ∧
  (∀ C K b r j tm hp es (d p:Nat) (ag:Bool) (len sz:Nat) (x y:A),go C K b (⟨some d,.ixa ag len sz x y,none,p⟩ :: r) j tm hp es=goV C K b d r j tm hp es [] (Zif ag len sz (evT tm x) (evT tm y))) ∧
  (∀ (ag:Bool) (len sz:Nat) (cs:List V) (k:IntKind) (i:Int),Zif ag len sz (.agg cs) (.d (.i k i))=if 0 ≤ i∧i < len then asO ag sz (zby cs (i.toNat * sz) sz) else none) ∧
  (∀ C K b r j tm hp es (d p:Nat) (len sz:Nat) (x y:A),go C K b (⟨some d,.iaa len sz x y,none,p⟩ :: r) j tm hp es=goV C K b d r j tm hp es [] (Zas len sz (evT tm x) (evT tm y))) ∧
  (∀ (len sz id o:Nat) (k:IntKind) (i:Int),Zas len sz (.ptr id o) (.d (.i k i))=if 0 ≤ i∧i < len then some (.ptr id (o + i.toNat * sz)) else none) ∧
  (∀ (len sz o:Nat) (ds:List D) (k:IntKind) (i:Int),Zas len sz (.d (.q ds o)) (.d (.i k i))=if 0 ≤ i∧i < len then some (.d (.q ds (o + i.toNat * sz))) else none) ∧
  (∀ C K b r j tm hp es (d p:Nat) (mx:Bool) (xs:List A),go C K b (⟨some d,.mm mx xs,none,p⟩ :: r) j tm hp es=goV C K b d r j tm hp es [] (oD (zhn mx (evL tm xs)))) ∧
  (∀ (mx:Bool) (k:IntKind) (x:Int) (r:List V),zhn mx (.d (.i k x) :: r)=Ze9 k (zi6 mx k x r)) ∧
  (∀ (k:IntKind) (x:Int),Ze9 k (some x)=some (.i k x))∧(∀ (mx:Bool) (k:IntKind) (x:Int),zi6 mx k x []=some x) ∧
  (∀ (k:IntKind) (x y:Int) (r:List V),zi6 true k x (.d (.i k y) :: r)=zi6 true k (if y > x then y else x) r) ∧
  (∀ (k:IntKind) (x y:Int) (r:List V),zi6 false k x (.d (.i k y) :: r)=zi6 false k (if y < x then y else x) r) ∧
  (∀ C K b r j tm hp es (d p sz n:Nat) (z:List D) (ps:List (Nat × A)),go C K b (⟨some d,.bsa sz n z ps,none,p⟩ :: r) j tm hp es=goR C K b d sz n r j tm hp es (zjy sz (List.replicate n (ofDs z)) (evI tm ps))) ∧
  (∀ C K b r j tm hp es (d sz n:Nat) (xs:List (List V)),goR C K b d sz n r j tm hp es (some xs)=go C K b r (j + 1) ((d,.arr (b + j) 0 0 n) :: tm) (hp.set (b + j) (some (.arr 0 sz xs))) (⟨[],false,b + j,1⟩ :: es)) ∧
  (∀ (sz:Nat) (xs:List (List V)),zjy sz xs []=some xs) ∧
  (∀ (sz:Nat) (xs:List (List V)) (i:Nat) (x:V) (r:List (Nat × V)),zjy sz xs ((i,x) :: r)=zvb sz xs i r x.cel) ∧
  (∀ (sz:Nat) (xs:List (List V)) (i:Nat) (r:List (Nat × V)) (c:List V),zvb sz xs i r (some c)=if c.length=sz∧i < xs.length then zjy sz (xs.set i c) r else none) ∧
  (∀ C K b r j tm hp es (d p sz bytes:Nat) (x y:A),go C K b (⟨some d,.apa sz bytes x y,none,p⟩ :: r) j tm hp es=z7u C K b d sz bytes r j tm hp es (evT tm x) (evT tm y) (Zat sz hp (evT tm y))) ∧
  (∀ C K b r j tm hp es (dst:Option Nat) (p key:Nat) (as:List A),go C K b (⟨dst,.lend key as,none,p⟩ :: r) j tm hp es=zyz C K b dst key r j tm hp es (V.handAll (evL tm as))) ∧
  (∀ C K b r j tm hp es (dst:Option Nat) (p key res:Nat) (as:List A),go C K b (⟨dst,.callr key as res,none,p⟩ :: r) j tm hp es=zlq C K b dst res r j tm hp es (zrv C (zbk hp) key res (b + j) (V.rawAll (evL tm as)))) ∧
  (∀ (E:Nat→Option Fn) (Q:Ex→St→Prop) (ann:Ann) (c:CCode) (s:St),WX E (.loop ann c) s Q=LX E c ann (enter ann s).heap.length (enter ann s) Q) ∧
  (∀ (E:Nat→Option Fn) (Q:Ex→St→Prop) (own:List (Nat × Nat)) (f:A) (key res:Nat) (ks:List Nat) (s:St),WX E (.range own f key ks res) s Q=rg0 (lcall E) Q f key res ks (zlu own s)):=by
 refine ⟨by intros; rw [V.fine],by rw [V.fineAll],by intros; rw [V.fineAll],by intros; rw [V.fine] <;> simp,by intros; rw [V.fine] <;> simp,by intros; rw [V.fine] <;> simp,by intros; rw [V.under], ?_, ?_, ?_, ?_, ?_, ?_, ?_, ?_, ?_,rfl, ?_, ?_,rfl, ?_, ?_, ?_, ?_, ?_, ?_, ?_, ?_, ?_, ?_, ?_, ?_, ?_, ?_, ?_, ?_, ?_, ?_, ?_, ?_, ?_, ?_, ?_, ?_, ?_, ?_, ?_, ?_, ?_, ?_, ?_, ?_, ?_, ?_, ?_, ?_, ?_,rfl, ?_, ?_, ?_, ?_, ?_, ?_, ?_, ?_, ?_, ?_, ?_, ?_, ?_, ?_, ?_, ?_, ?_, ?_, ?_, ?_, ?_, ?_, ?_, ?_, ?_, ?_⟩
 all_goals first
  | (intros; rfl)
  | (intros; exact Zes ..)
  | (intros; exact z7p ..)
  | (intros; exact z2v ..)
  | (intros; exact Zet ..)
  | (intros; exact Zeu ..)
  | (intros; exact Zjc ..)
  | (intros; exact Zjd ..)
  | (intros; exact Zev ..)
  | (intros; exact z70 ..)
  | (intros; exact z71 ..)
  | (intros; exact z72 ..)
  | (intros; exact z22 ..)
  | (intros; exact z7r ..)
  | (intros; exact z7s ..)
  | (intros; exact Zex ..)
  | (intros; exact Zey ..)
  | (intros; exact Zez ..)
  | (intros; exact Zje ..)
  | (intros; exact Ze0 ..)
  | (intros; exact zwy ..)
  | (intros; exact Ze3 ..)
  | (intros; exact z7v ..)
  | (intros; exact z2w ..)
  | (intros; exact z2z ..)
  | skip
 ·intro ks neg x y
  simp only [Zew]
  cases V.toDs x with
  | none=>rfl
  | some a=>cases V.toDs y <;> rfl
 ·intro k x y; simp only [eqD,if_true]
 ·intro k x y r; simp only [zi6,if_true]
 ·intro k x y r; simp only [zi6,if_true]; rfl
open Go
def zca (l:List UInt8):List (List D):=l.map fun c=>[.i .u8 c.toNat]
theorem Zfb {n:Int}(h:(Lit.int .u8 n).wf=true):∃ c:UInt8,n=c.toNat:=by
 simp only [Lit.wf,Qi,IntKind.min,IntKind.max,IntKind.signed,IntKind.bits] at h
 refine ⟨UInt8.ofNat n.toNat, ?_⟩
 rw [UInt8.toNat_ofNat']
 simp at h
 omega
theorem z73 {n:Int}(h:(Lit.int .i64 n).wf=true) : -9223372036854775808 ≤ n∧n ≤ 9223372036854775807:=by
 simp only [Lit.wf,Qi,Qh,IntKind.min,IntKind.max,IntKind.signed,IntKind.bits] at h
 simp at h
 omega
section
variable {P:Program}
theorem zve {t e:TypeId}(hu:P.underlying t=some (.slice e))(he:P.underlying e=some (.int .u8))(hc:P.cellsOf e=1):∀ {f:Nat} {ds:List D},tyD P f t ds→∃ l,ds=[.l 1 (zca l)]
 | 0,ds,h=>h.elim
 | f + 1,ds,h=>by
  simp only [tyD,hu,hc] at h
  obtain ⟨xs,rfl,_,h3⟩:=h
  have:∀ (xs:List (List D)),(∀ r ∈ xs,r.length=1∧tyD P f e r)→∃ l,xs=zca l:=by
   intro xs
   induction xs with
   | nil=>intro _; exact ⟨[],rfl⟩
   | cons r rs ih =>
    intro h
    obtain ⟨l,rfl⟩:=ih (fun r hr=>h r (by simp [hr]))
    obtain ⟨_,h1⟩:=h r (by simp)
    cases f with
    | zero=>exact h1.elim
    | succ f =>
     simp only [tyD,he] at h1
     obtain ⟨n,rfl,hw⟩:=h1
     obtain ⟨c,rfl⟩:=Zfb hw
     exact ⟨c :: l,rfl⟩
  obtain ⟨l,rfl⟩:=this xs h3
  exact ⟨l,rfl⟩
theorem Zfc {t:TypeId}(hu:P.underlying t=some .string):∀ {f:Nat} {ds:List D},tyD P f t ds→∃ x:List UInt8,ds=[.s x]
 | 0,ds,h=>h.elim
 | f + 1,ds,h=>by
  simp only [tyD,hu] at h
  obtain ⟨x,rfl,_⟩:=h
  exact ⟨x,rfl⟩
theorem zr1 {t:TypeId}(hu:P.underlying t=some (.int .i64)):∀ {f:Nat} {ds:List D},tyD P f t ds→∃ n:Int,ds=[.i .i64 n]∧-9223372036854775808 ≤ n∧n ≤ 9223372036854775807
 | 0,ds,h=>h.elim
 | f + 1,ds,h=>by
  simp only [tyD,hu] at h
  obtain ⟨n,rfl,hw⟩:=h
  exact ⟨n,rfl,z73 hw⟩
end
end Ab
