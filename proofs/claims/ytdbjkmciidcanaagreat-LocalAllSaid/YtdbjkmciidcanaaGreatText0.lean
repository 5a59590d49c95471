/-
 Rows that are looked through: slices.IndexFunc, slices.ContainsFunc, whatever their elements' size.
-/
import Derived.Test.YtdbjkmciidcanaaGreatPack5
import Derived.IntWalk
set_option linter.unusedSimpArgs false
set_option linter.unusedVariables false
set_option linter.unusedSectionVars false
set_option linter.unnecessarySimpa false
set_option maxRecDepth 100000
namespace Ab
open Go
theorem zda {n:Int}(h1 : -9223372036854775808 ≤ n)(h2:n ≤ 9223372036854775807):IntKind.i64.wrap n=n:=Go.IntWalk.i64_in n ⟨h1,h2⟩
theorem zjs:∀ (ds:List D),V.handAll (ofDs ds)=some (ofDs ds)
 | []=>by simp [ofDs,V.handAll]
 | x :: r=>by
  have:=zjs r
  simp only [ofDs,Qb] at this ⊢
  simp [V.handAll,V.hand,this]
theorem zg4:∀ (ds:List D),V.refsAll (ofDs ds)=[]
 | []=>by simp [ofDs,V.refsAll]
 | x :: r=>by
  have:=zg4 r
  simp only [ofDs,Qb] at this ⊢
  simp [V.refsAll,V.refs,this]
theorem zjt (f sh:Nat→Nat):∀ (ds:List D),V.renAll f sh (ofDs ds)=ofDs ds
 | []=>by simp [ofDs,V.renAll]
 | x :: r=>by
  have:=zjt f sh r
  simp only [ofDs,Qb] at this ⊢
  simp [V.renAll,V.ren,this]
def zm2 (ag:Bool)(r:List D):V:=if ag then .agg (ofDs r) else .d (r.headD .np)
theorem zr8 (ag:Bool)(r:List D):V.hand (zm2 ag r)=some (zm2 ag r):=by
 cases ag
 ·simp [zm2,V.hand]
 ·simp [zm2,V.hand,zjs]
theorem zr9 (ag:Bool)(r:List D):V.refs (zm2 ag r)=[]:=by
 cases ag
 ·simp [zm2,V.refs]
 ·simp [zm2,V.refs,zg4]
theorem zvw (f sh:Nat→Nat)(ag:Bool)(r:List D):V.ren f sh (zm2 ag r)=zm2 ag r:=by
 cases ag
 ·simp [zm2,V.ren]
 ·simp [zm2,V.ren,zjt]
theorem z81 {ag:Bool}{sz:Nat}{r:List D}(h:r.length=sz)(ha:ag=false→sz=1):asO ag sz (zbn (ofDs r) 0 sz)=some (zm2 ag r):=by
 have hl:(ofDs r).length=sz:=by simp [ofDs,h]
 have ht:zbn (ofDs r) 0 sz=some (ofDs r):=by
  unfold zbn
  rw [if_pos (by omega),List.drop_zero,List.take_of_length_le (by omega)]
 rw [ht]
 cases ag with
 | true=>simp [asO,ze7,hl,zm2]
 | false =>
  have h1:=ha rfl
  subst h1
  match r,h with
  | [x],_=>rfl
theorem evY :
  (∀ (a b c d e:V) (r:List V),zbn (a :: b :: c :: d :: e :: r) 0 5=some [a,b,c,d,e]) ∧
  (∀ (a b c d e f:V) (r:List V),zbn (a :: b :: c :: d :: e :: f :: r) 0 6=some [a,b,c,d,e,f]) ∧
  (∀ (a b c d e f g:V) (r:List V),zbn (a :: b :: c :: d :: e :: f :: g :: r) 0 7=some [a,b,c,d,e,f,g]) ∧
  (∀ (a b c d e f g h:V) (r:List V),zbn (a :: b :: c :: d :: e :: f :: g :: h :: r) 0 8=some [a,b,c,d,e,f,g,h]) ∧
  (∀ (a b c d e f g h i:V) (r:List V),zbn (a :: b :: c :: d :: e :: f :: g :: h :: i :: r) 0 9=some [a,b,c,d,e,f,g,h,i]) ∧
  (∀ (a b c d e f g h i j:V) (r:List V),zbn (a :: b :: c :: d :: e :: f :: g :: h :: i :: j :: r) 0 10=some [a,b,c,d,e,f,g,h,i,j]) ∧
  (∀ (a b c d e f g h i j k:V) (r:List V),zbn (a :: b :: c :: d :: e :: f :: g :: h :: i :: j :: k :: r) 0 11=some [a,b,c,d,e,f,g,h,i,j,k]) ∧
  (∀ (a b c d e f g h i j k l:V) (r:List V),zbn (a :: b :: c :: d :: e :: f :: g :: h :: i :: j :: k :: l :: r) 0 12=some [a,b,c,d,e,f,g,h,i,j,k,l]):=by
 refine ⟨?_, ?_, ?_, ?_, ?_, ?_, ?_, ?_⟩ <;> intros <;> simp [zbn]
@[reducible] def oo (d:Nat)(c:Cop):CO:=⟨some d,c,none,0⟩
theorem Zlc (d:Nat)(c:Cop):oo d c=⟨some d,c,none,0⟩:=rfl
theorem Zc5:far=4096:=rfl
set_option linter.defProp false in
def Zon:=And.intro @List.getD_cons_zero.{0} (And.intro @List.getD_cons_succ.{0} (And.intro @Bool.or_self (And.intro @Bool.or_false (And.intro @Bool.false_or (And.intro @Bool.or_true (And.intro @Bool.true_or (And.intro @Bool.and_true (And.intro @Bool.true_and (And.intro @Bool.and_self (And.intro @Bool.and_false (And.intro @Bool.false_and (And.intro @Bool.not_false (And.intro @Bool.not_true (And.intro Qm (And.intro not_true_eq_false (And.intro not_false_eq_true (And.intro @true_and (And.intro @Qk (And.intro @Int.cast_ofNat_Int Zc5)))))))))))))))))))
set_option linter.defProp false in
def zab:=And.intro Zlc (And.intro Zon (And.intro evY (And.intro evQ (And.intro evK (And.intro evG (And.intro evW (And.intro evX (And.intro evM (And.intro evN (And.intro evC (And.intro evR evH)))))))))))
def z4q (sz:Nat)(ag:Bool):CFn:=⟨.seq (.region false [
 ⟨(some 4),.mv (.k (.d (.i .i64 0))),none,0⟩]) (
.seq (.seq (.region false [
 ⟨(some 6),.mv (.t 0),none,0⟩,
 ⟨(some 7),.len 0 (.t 6),none,0⟩,
 ⟨(some 8),.mv (.k (.d (.i .i64 0))),none,0⟩]) (
.block 0 (.loop ⟨[0,1,7,8],[],[],[],[],true⟩ (.seq (.region false [
 ⟨(some 9),.bin .lss (.t 8) (.t 7),none,0⟩]) (
.seq (.cond (.t 9) (
.skip) (.exit 0)) (
.seq (.block 1 (.seq (.region false [
 ⟨(some 10),.mv (.t 8),none,0⟩,
 ⟨(some 5),.mv (.t 10),none,0⟩]) (
.seq (.region false [
 ⟨(some 11),.mv (.t 1),none,0⟩,
 ⟨(some 12),.mv (.t 0),none,0⟩,
 ⟨(some 13),.mv (.t 5),none,0⟩,
 ⟨(some 14),.ia sz (.t 12) (.t 13),none,0⟩,
 ⟨(some 15),.ld ag sz (.t 14),none,0⟩,
 ⟨(some 16),.callv (.t 11) [(.t 15)] 4 true,none,0⟩]) (
.cond (.t 16) (
.seq (.region false [
 ⟨(some 17),.mv (.t 5),none,0⟩,
 ⟨(some 4),.mv (.t 17),none,0⟩]) (
.ret)) (.skip))))) (
.region false [
 ⟨(some 18),.bin .add (.t 8) (.k (.d (.i .i64 1))),none,0⟩,
 ⟨(some 8),.mv (.t 18),none,0⟩]))))))) (
.seq (.region false [
 ⟨(some 4),.mv (.k (.d (.i .i64 (-1)))),none,0⟩]) (
.ret))),[.slot 4]⟩
def Zc6 (k:Nat):CFn:=⟨.seq (.region false [
 ⟨(some 4),.mv (.k (.d (.b false))),none,0⟩]) (
.seq (.region false [
 ⟨(some 5),.mv (.t 0),none,0⟩,
 ⟨(some 6),.mv (.t 1),none,0⟩,
 ⟨(some 7),.call k [(.t 5),(.t 6)] 4 true,none,0⟩,
 ⟨(some 8),.bin .geq (.t 7) (.k (.d (.i .i64 0))),none,0⟩,
 ⟨(some 4),.mv (.t 8),none,0⟩]) (
.ret)),[.slot 4]⟩
def z0u {α:Type}(p:α→Bool):List α→Nat→Option Nat
 | [],_=>none
 | x :: r,i=>if p x then some i else z0u p r (i + 1)
def Zax (o:Option Nat):Int:=match o with | some i=>(i:Int) | none=>-1
theorem zvx {α:Type}(p:α→Bool):∀ (l:List α) (i:Nat),(z0u p l i).isSome=l.any p
 | [],i=>rfl
 | x :: r,i=>by
  simp only [z0u,List.any_cons]
  cases p x with
  | true=>rfl
  | false=>simp [zvx p r (i + 1)]
theorem z4r {α:Type}(p:α→Bool)(l:List α)(i:Nat):decide (Zax (z0u p l i) ≥ 0)=l.any p:=by
 rw [← zvx p l i]
 cases z0u p l i with
 | none=>simp [Zax]
 | some n=>simp [Zax]
def zqh (sz:Nat)(ag:Bool):CCode:=match (z4q sz ag).body with
 | .seq _ (.seq (.seq _ (.block _ (.loop _ c))) _)=>c
 | _=>.skip
section
variable {E:Nat→Option Fn} {α:Type}
theorem z4s {sz:Nat}{ag:Bool}(ha:ag=false→sz=1){l:List α}{enc:α→List D}(hl:l.length ≤ 1000000)(hs:∀ a ∈ l,(enc a).length=sz){k:Nat}{c:List D}{p:α→Bool}
  (hp:∀ a ∈ l,lcall E k (zm2 ag (enc a) :: ofDs c) []=some (.d (.b (p a)),[])) {Q:Ex→St→Prop}
  (hno:∀ tm,z0u p l 0=none→Q (.exit 0) ⟨tm,[]⟩) (hyes:∀ tm hp (j:Nat),z0u p l 0=some j→za1 tm 4 = .d (.i .i64 j)→Q .ret ⟨tm,hp⟩) :
  ∀ (m i:Nat) ,i + m=l.length→z0u p l 0=z0u p (l.drop i) i →
   LX E (zqh sz ag) ⟨[0,1,7,8],[],[],[],[],true⟩ 0 ⟨[(0,.d (.l sz (l.map enc))),(1,.d (.f k [] c)),(7,.d (.i .i64 l.length)),(8,.d (.i .i64 i))],[]⟩ Q:=by
 intro m
 induction m with
 | zero =>
  intro i hi he
  have hn:¬ ((i:Int) < l.length):=by omega
  rw [List.drop_eq_nil_of_le (by omega)] at he
  refine zah ?_
  simp only [zab,Nat.reduceBEq,↓reduceIte,Nat.reduceEqDiff,Nat.reduceAdd,Nat.reduceLeDiff,Nat.reduceSub,Nat.reduceLT,reduceCtorEq,Int.reduceEq,Int.reduceLT,Int.reduceLE,Int.reduceNeg,zaa,Int.reduceToNat,Nat.reduceMul,List.range'_one,zqh,z4q,hn]
  exact hno _ he
 | succ m ih =>
  intro i hi he
  have hy:(i:Int) < l.length:=by omega
  have la:i < l.length:=by omega
  have h0:(0:Int) ≤ i:=by omega
  have ga:(l.map enc)[i]?=some (enc l[i]):=by rw [List.getElem?_map,Qd la]; rfl
  have w:IntKind.i64.wrap ((i:Int) + 1)=((i + 1:Nat):Int):=by rw [zda (by omega) (by omega)]; omega
  have hm:=List.getElem_mem la
  have c1:=hp _ hm
  have l1:=z81 (hs _ hm) ha
  rw [List.drop_eq_getElem_cons la] at he
  simp only [z0u] at he
  generalize l[i]=x at *
  cases hpx:p x with
  | true =>
   rw [hpx,if_pos rfl] at he
   rw [hpx] at c1
   refine zah ?_
   simp only [zab,Nat.reduceBEq,↓reduceIte,Nat.reduceEqDiff,Nat.reduceAdd,Nat.reduceLeDiff,Nat.reduceSub,Nat.reduceLT,reduceCtorEq,Int.reduceEq,Int.reduceLT,Int.reduceLE,Int.reduceNeg,zaa,Int.reduceToNat,Nat.reduceMul,List.range'_one,zqh,z4q,eq_true hy,h0,ga,l1,zjs,zr8,zg4,zr9,zjt,zvw,c1,List.nil_append,List.cons_append]
   refine hyes _ _ i he ?_
   simp only [zab,Nat.reduceBEq,↓reduceIte,Nat.reduceEqDiff,Nat.reduceAdd,Nat.reduceLeDiff,Nat.reduceSub,Nat.reduceLT,reduceCtorEq,Int.reduceEq,Int.reduceLT,Int.reduceLE,Int.reduceNeg,zaa,Int.reduceToNat,Nat.reduceMul,List.range'_one]
  | false =>
   rw [hpx] at he c1
   refine zah ?_
   simp only [zab,Nat.reduceBEq,↓reduceIte,Nat.reduceEqDiff,Nat.reduceAdd,Nat.reduceLeDiff,Nat.reduceSub,Nat.reduceLT,reduceCtorEq,Int.reduceEq,Int.reduceLT,Int.reduceLE,Int.reduceNeg,zaa,Int.reduceToNat,Nat.reduceMul,List.range'_one,zqh,z4q,eq_true hy,h0,ga,l1,zjs,zr8,zg4,zr9,zjt,zvw,c1,w,List.nil_append,List.cons_append]
   refine ⟨_, ?_,ih (i + 1) (by omega) (by simpa using he)⟩
   simp only [zab,Nat.reduceBEq,↓reduceIte,Nat.reduceEqDiff,Nat.reduceAdd,Nat.reduceLeDiff,Nat.reduceLT,Nat.reduceSub,reduceCtorEq]
theorem Zc7 {key sz:Nat}{ag:Bool}(he:E key=some (.code (z4q sz ag)))(ha:ag=false→sz=1){l:List α}{enc:α→List D}(hl:l.length ≤ 1000000)(hs:∀ a ∈ l,(enc a).length=sz){k:Nat}{c:List D}{p:α→Bool}
  (hp:∀ a ∈ l,lcall E k (zm2 ag (enc a) :: ofDs c) []=some (.d (.b (p a)),[])):lcall E key [.d (.l sz (l.map enc)),.d (.f k [] c)] []=some (.d (.i .i64 (Zax (z0u p l 0))),[]):=by
 refine zaq he ?_
 simp only [zab,Nat.reduceBEq,↓reduceIte,Nat.reduceEqDiff,Nat.reduceAdd,Nat.reduceLeDiff,Nat.reduceSub,Nat.reduceLT,reduceCtorEq,Int.reduceEq,Int.reduceLT,Int.reduceLE,Int.reduceNeg,zaa,Int.reduceToNat,Nat.reduceMul,List.range'_one,z4q,Qf]
 refine z4s ha hl hs hp (fun tm h=>?_) (fun tm hp j h h4=>?_) l.length 0 (by omega) rfl
 ·rw [h]
  simp only [zab,Nat.reduceBEq,↓reduceIte,Nat.reduceEqDiff,Nat.reduceAdd,Nat.reduceLeDiff,Nat.reduceSub,Nat.reduceLT,reduceCtorEq,Int.reduceEq,Int.reduceLT,Int.reduceLE,Int.reduceNeg,zaa,Int.reduceToNat,Nat.reduceMul,List.range'_one,z4q,Zax]
 ·rw [h]
  simp only [zab,Nat.reduceBEq,↓reduceIte,Nat.reduceEqDiff,Nat.reduceAdd,Nat.reduceLeDiff,Nat.reduceSub,Nat.reduceLT,reduceCtorEq,Int.reduceEq,Int.reduceLT,Int.reduceLE,Int.reduceNeg,zaa,Int.reduceToNat,Nat.reduceMul,List.range'_one,z4q,Zax,h4]
theorem zg5 {key ki sz:Nat}{ag:Bool}(he:E key=some (.code (Zc6 ki)))(hi:E ki=some (.code (z4q sz ag)))(ha:ag=false→sz=1){l:List α}{enc:α→List D}(hl:l.length ≤ 1000000)(hs:∀ a ∈ l,(enc a).length=sz){k:Nat}{c:List D}{p:α→Bool}
  (hp:∀ a ∈ l,lcall E k (zm2 ag (enc a) :: ofDs c) []=some (.d (.b (p a)),[])):lcall E key [.d (.l sz (l.map enc)),.d (.f k [] c)] []=some (.d (.b (l.any p)),[]):=by
 have c1:=Zc7 hi ha hl hs hp
 refine zaq he ?_
 simp only [zab,Nat.reduceBEq,↓reduceIte,Nat.reduceEqDiff,Nat.reduceAdd,Nat.reduceLeDiff,Nat.reduceSub,Nat.reduceLT,reduceCtorEq,Int.reduceEq,Int.reduceLT,Int.reduceLE,Int.reduceNeg,zaa,Int.reduceToNat,Nat.reduceMul,List.range'_one,Zc6,c1,z4r]
end
end Ab
