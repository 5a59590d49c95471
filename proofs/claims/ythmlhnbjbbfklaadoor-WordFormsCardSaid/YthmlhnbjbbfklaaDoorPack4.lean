/-
 A region's operations, one by one: equations.
-/
import Derived.Test.YthmlhnbjbbfklaaDoorPack3
set_option linter.unusedSimpArgs false
set_option linter.unusedVariables false
set_option linter.unusedSectionVars false
set_option linter.unnecessarySimpa false
namespace Ab
open Go
def evT (tm : List (Nat × V)) : A → V
 | .t i => look tm i
 | .k v => v
def objT (hp : List (Option Obj)) (i : Nat) : Option Obj := (hp[i]?).join
def putT (d : Option Nat) (v : V) (tm : List (Nat × V)) : List (Nat × V) := match d with | some d => (d, v) :: tm | none => tm
theorem ev_evT (tm : List (Nat × V)) (hp : List (Option Obj)) : (⟨tm, hp⟩ : St).ev = evT tm := by funext a; cases a <;> rfl
def gd (want : Bool) : V → Option Bool
 | .d (.b x) => some (x == want)
 | .tup [] => some false
 | _ => none
def go (C : CallF) (K : St → List Foot → Prop) (b : Nat) (r : List CO) (j : Nat) (tm : List (Nat × V)) (hp : List (Option Obj)) (es : List Foot) : Prop := rgo C b r j ⟨tm, hp⟩ es K
section
variable {C : CallF} {K : St → List Foot → Prop} {b : Nat} {r : List CO} {j : Nat} {tm : List (Nat × V)} {hp : List (Option Obj)} {es : List Foot} {d p : Nat}
def goAct (C : CallF) (K : St → List Foot → Prop) (b : Nat) (dst : Option Nat) (op : Cop) (r : List CO) (j : Nat) (tm : List (Nat × V)) (hp : List (Option Obj)) (es : List Foot) (ids : List Nat) : Option Res → Prop
 | none => False
 | some e => go C K b r (j + op.nmk) (putT dst e.v tm) (setObjs (if op.wr then setObjs hp ids e.os else hp) (List.range' (b + j) e.nws.length) e.nws) (⟨ids, op.wr, b + j, e.nws.length⟩ :: es)
theorem go_act (dst : Option Nat) (op : Cop) (hc : op.isCall = false) : go C K b (⟨dst, op, none, p⟩ :: r) j tm hp es =
  goAct C K b dst op r j tm hp es (op.ids (op.args.map (evT tm))) (act op (op.args.map (evT tm)) ((op.ids (op.args.map (evT tm))).map (objT hp)) (b + j)) := by
 have ho : (⟨tm, hp⟩ : St).obj = objT hp := rfl
 simp only [go, rgo, opEff, wanted, ev_evT, hc, Qm, if_false, ho]
 cases act op (op.args.map (evT tm)) ((op.ids (op.args.map (evT tm))).map (objT hp)) (b + j) with
 | none => rfl
 | some e => cases dst <;> rfl
def goG (C : CallF) (K : St → List Foot → Prop) (b : Nat) (dst : Option Nat) (op : Cop) (p : Nat) (r : List CO) (j : Nat) (tm : List (Nat × V)) (hp : List (Option Obj)) (es : List Foot) : Option Bool → Prop
 | none => False
 | some false => go C K b r (j + op.nmk) (putT dst .undef tm) hp (⟨[], false, b + j, 0⟩ :: es)
 | some true => go C K b (⟨dst, op, none, p⟩ :: r) j tm hp es
theorem go_guard (dst : Option Nat) (op : Cop) (t : Nat) (want : Bool) : go C K b (⟨dst, op, some (t, want), p⟩ :: r) j tm hp es = goG C K b dst op p r j tm hp es (gd want (look tm t)) := by
 have hg : wanted ⟨tm, hp⟩ (some (t, want)) = gd want (look tm t) := rfl
 have h1 : opEff C ⟨tm, hp⟩ ⟨dst, op, some (t, want), p⟩ (b + j) = match gd want (look tm t) with
   | none => none
   | some false => some ⟨dst, .undef, [], false, [], b + j, []⟩
   | some true => opEff C ⟨tm, hp⟩ ⟨dst, op, none, p⟩ (b + j) := by
  rw [← hg]
  unfold opEff
  cases wanted ⟨tm, hp⟩ (some (t, want)) with
  | none => rfl
  | some x => cases x <;> rfl
 rw [go, rgo, h1]
 cases gd want (look tm t) with
 | none => rfl
 | some x =>
  cases x with
  | false => cases dst <;> rfl
  | true => rfl
def bk (L : List Nat) (fresh i : Nat) : Nat := if i < L.length then L.getD i 0 else fresh + (i - L.length)
def shf (L : List Nat) (h : List (Option Obj)) (i : Nat) : Nat := if i < L.length then verOf (h.getD i none) else 0
def ent5 (L : List Nat) (h : List (Option Obj)) (res fresh : Nat) (r : V) : Option (List (Option Obj)) → Option (V × List Nat × List (Option Obj) × List (Option Obj))
 | none => none
 | some os => if L.length ≤ os.length ∧ os.length ≤ L.length + res then some (V.ren (bk L fresh) (shf L h) r, L, os.take L.length, os.drop L.length) else none
def ent4 (L : List Nat) (h : List (Option Obj)) (res fresh : Nat) : Option (V × List (Option Obj)) → Option (V × List Nat × List (Option Obj) × List (Option Obj))
 | none => none
 | some (r, h') => ent5 L h res fresh r (renObjs (bk L fresh) (shf L h) 0 h')
def ent3 (C : CallF) (key : Nat) (hs : List V) (L : List Nat) (res fresh : Nat) : Option (List (Option Obj)) → Option (V × List Nat × List (Option Obj) × List (Option Obj))
 | none => none
 | some h => ent4 L h res fresh (C key (V.renAll (placeOf L) noShift hs) h)
def ent2 (C : CallF) (obj : Nat → Option Obj) (key : Nat) (hs : List V) (res fresh : Nat) : Option (List Nat) → Option (V × List Nat × List (Option Obj) × List (Option Obj))
 | none => none
 | some L => ent3 C key hs L res fresh (renObjs (placeOf L) noShift 0 (L.map obj))
def ent1 (C : CallF) (obj : Nat → Option Obj) (key : Nat) (res fresh : Nat) : Option (List V) → Option (V × List Nat × List (Option Obj) × List (Option Obj))
 | none => none
 | some hs => ent2 C obj key hs res fresh (reach obj far (V.refsAll hs) [])
theorem enter_ent (C : CallF) (md : Md) (obj : Nat → Option Obj) (key : Nat) (vs : List V) (res fresh : Nat) : enterCall C md obj key vs res fresh = ent1 C obj key res fresh (md.hands vs) := by
 unfold enterCall
 cases md.hands vs with
 | none => rfl
 | some hs =>
  simp only [ent1]
  cases reach obj far (V.refsAll hs) [] with
  | none => rfl
  | some L =>
   simp only [ent2]
   cases renObjs (placeOf L) noShift 0 (L.map obj) with
   | none => rfl
   | some h =>
    simp only [ent3]
    cases C key (V.renAll (placeOf L) noShift hs) h with
    | none => rfl
    | some x =>
     obtain ⟨r, h'⟩ := x
     show (match renObjs (bk L fresh) (shf L h) 0 h' with | none => none | some os => _) = ent5 L h res fresh r (renObjs (bk L fresh) (shf L h) 0 h')
     cases renObjs (bk L fresh) (shf L h) 0 h' <;> rfl
theorem hands_mdOf (fz : Bool) (vs : List V) : (mdOf fz).hands vs = V.handAll vs := by cases fz <;> rfl
def setl1 (m : Nat) (r : V) (h : List (Option Obj)) : List Nat → Option (V × List (Option Obj))
 | [] => some (r, h)
 | _ :: _ => settle m r h
theorem settle_ids (m : Nat) (r : V) (h : List (Option Obj)) : settle m r h = setl1 m r h (ansIds m r) := by
 cases hx : ansIds m r with
 | nil => unfold settle; rw [hx]; rfl
 | cons a l => rfl
def setlO (m : Nat) : Option (V × List (Option Obj)) → Option (V × List (Option Obj))
 | none => none
 | some (r, h) => settle m r h
theorem frz_true (C : CallF) (key : Nat) (as : List V) (h : List (Option Obj)) : frzCall (mdOf true) C key as h = setlO h.length (C key as h) := by
 unfold frzCall
 simp only [mdOf]
 cases C key as h with
 | none => rfl
 | some x => obtain ⟨r, h'⟩ := x; rfl
def goCall (C : CallF) (K : St → List Foot → Prop) (b : Nat) (dst : Option Nat) (n : Nat) (r : List CO) (j : Nat) (tm : List (Nat × V)) (hp : List (Option Obj)) (es : List Foot) : Option (V × List Nat × List (Option Obj) × List (Option Obj)) → Prop
 | none => False
 | some (v, is, os, ns) => go C K b r (j + n) (putT dst v tm) (setObjs (setObjs hp is os) (List.range' (b + j) ns.length) ns) (⟨is, true, b + j, ns.length⟩ :: es)
theorem go_call (dst : Option Nat) (key : Nat) (as : List A) (res : Nat) (fz : Bool) : go C K b (⟨dst, .call key as res fz, none, p⟩ :: r) j tm hp es =
  goCall C K b dst res r j tm hp es (ent1 (frzCall (mdOf fz) C) (objT hp) key res (b + j) (V.handAll (as.map (evT tm)))) := by
 have ho : (⟨tm, hp⟩ : St).obj = objT hp := rfl
 simp only [go, rgo, opEff, wanted, ev_evT, Cop.isCall, if_true, callee, Cop.args, ho, enter_ent, hands_mdOf]
 cases ent1 (frzCall (mdOf fz) C) (objT hp) key res (b + j) (V.handAll (as.map (evT tm))) with
 | none => rfl
 | some x => obtain ⟨v, is, os, ns⟩ := x; cases dst <;> rfl
def calleeV : V → List V → Option (Nat × List V)
 | .d (.f key first cap), as => some (key, ofDs first ++ as ++ ofDs cap)
 | .fn key [.map id] [], as => some (key, .fn key [.map id] [] :: as)
 | .fn key first cap, as => some (key, first ++ as ++ cap)
 | _, _ => none
def goCallv (C : CallF) (K : St → List Foot → Prop) (b : Nat) (dst : Option Nat) (res : Nat) (fz : Bool) (r : List CO) (j : Nat) (tm : List (Nat × V)) (hp : List (Option Obj)) (es : List Foot) : Option (Nat × List V) → Prop
 | none => False
 | some (key, as) => goCall C K b dst res r j tm hp es (ent1 (frzCall (mdOf fz) C) (objT hp) key res (b + j) (V.handAll as))
theorem go_callv (dst : Option Nat) (f : A) (as : List A) (res : Nat) (fz : Bool) : go C K b (⟨dst, .callv f as res fz, none, p⟩ :: r) j tm hp es =
  goCallv C K b dst res fz r j tm hp es (calleeV (evT tm f) (as.map (evT tm))) := by
 have ho : (⟨tm, hp⟩ : St).obj = objT hp := rfl
 have h1 : callee (.callv f as res fz) ((Cop.args (.callv f as res fz)).map (evT tm)) = match calleeV (evT tm f) (as.map (evT tm)) with | some (k, as) => some (k, as, res, mdOf fz) | none => none := by
  simp only [Cop.args, Qb]
  generalize evT tm f = fv
  cases fv with
  | d x => cases x <;> rfl
  | fn k a c =>
   rcases a with _ | ⟨x, _ | ⟨y, a⟩⟩
   ·rfl
   ·cases x with
    | map id => cases c <;> rfl
    | _ => rfl
   ·cases x <;> rfl
  | _ => rfl
 simp only [go, rgo, opEff, wanted, ev_evT, Cop.isCall, if_true, h1, ho]
 cases calleeV (evT tm f) (as.map (evT tm)) with
 | none => rfl
 | some x =>
  obtain ⟨key, vs⟩ := x
  simp only [goCallv, enter_ent, hands_mdOf]
  cases ent1 (frzCall (mdOf fz) C) (objT hp) key res (b + j) (V.handAll vs) with
  | none => rfl
  | some x => obtain ⟨v, is, os, ns⟩ := x; cases dst <;> rfl
theorem go_mv (x : A) : go C K b (⟨some d, .mv x, none, p⟩ :: r) j tm hp es = go C K b r j ((d, evT tm x) :: tm) hp (⟨[], false, b + j, 0⟩ :: es) := by
 rw [go_act _ _ rfl]; rfl
def goV (C : CallF) (K : St → List Foot → Prop) (b d : Nat) (r : List CO) (j : Nat) (tm : List (Nat × V)) (hp : List (Option Obj)) (es : List Foot) (ids : List Nat) : Option V → Prop
 | none => False
 | some v => go C K b r j ((d, v) :: tm) hp (⟨ids, false, b + j, 0⟩ :: es)
def oD : Option D → Option V
 | some x => some (.d x)
 | none => none
theorem go_bin (op : BinOp) (x y : A) : go C K b (⟨some d, .bin op x y, none, p⟩ :: r) j tm hp es = goV C K b d r j tm hp es [] (oD (binOp op (evT tm x) (evT tm y))) := by
 rw [go_act _ _ rfl]
 simp only [Cop.args, Qb, Qc, Cop.ids, act]
 cases binOp op (evT tm x) (evT tm y) <;> rfl
theorem go_un (op : UnOp) (x : A) : go C K b (⟨some d, .un op x, none, p⟩ :: r) j tm hp es = goV C K b d r j tm hp es [] (oD (unOp op (evT tm x))) := by
 rw [go_act _ _ rfl]
 simp only [Cop.args, Qb, Qc, Cop.ids, act]
 cases unOp op (evT tm x) <;> rfl
def pickV : V → V → V → Option V
 | .d (.b c), x, y => some (if c then x else y)
 | _, _, _ => none
theorem go_pick (x y z : A) : go C K b (⟨some d, .pick x y z, none, p⟩ :: r) j tm hp es = goV C K b d r j tm hp es [] (pickV (evT tm x) (evT tm y) (evT tm z)) := by
 rw [go_act _ _ rfl]
 simp only [Cop.args, Qb, Qc, Cop.ids]
 generalize evT tm x = v
 cases v with
 | d x => cases x <;> rfl
 | _ => rfl
def faV (o : Nat) : V → Option V
 | .ptr id q => some (.ptr id (q + o))
 | .pm id ver idx q => some (.pm id ver idx (q + o))
 | .d (.q ds q) => some (.d (.q ds (q + o)))
 | _ => none
theorem go_fa (o : Nat) (x : A) : go C K b (⟨some d, .fa o x, none, p⟩ :: r) j tm hp es = goV C K b d r j tm hp es [] (faV o (evT tm x)) := by
 rw [go_act _ _ rfl]
 simp only [Cop.args, Qb, Qc, Cop.ids]
 generalize evT tm x = v
 cases v with
 | d x => cases x <;> rfl
 | _ => rfl
def asO (ag : Bool) (n : Nat) : Option (List V) → Option V
 | some c => asVar ag n c
 | none => none
def flV (ag : Bool) (o n : Nat) : V → Option V
 | .agg cs => asO ag n (takeV cs o n)
 | _ => none
theorem go_fl (ag : Bool) (o n : Nat) (x : A) : go C K b (⟨some d, .fl ag o n x, none, p⟩ :: r) j tm hp es = goV C K b d r j tm hp es [] (flV ag o n (evT tm x)) := by
 rw [go_act _ _ rfl]
 simp only [Cop.args, Qb, Qc, Cop.ids, act]
 generalize evT tm x = v
 cases v with
 | agg cs =>
  simp only [flV]
  cases takeV cs o n with
  | none => rfl
  | some c => simp only [asO]; cases asVar ag n c <;> rfl
 | _ => rfl
def nilcV : V → Option V
 | .ptr id off => some (.ptr id off)
 | .pm id ver idx off => some (.pm id ver idx off)
 | .d (.q ds off) => some (.d (.q ds off))
 | .d (.f k a c) => some (.d (.f k a c))
 | .fn k a c => some (.fn k a c)
 | _ => none
theorem go_nilc (x : A) : go C K b (⟨some d, .nilc x, none, p⟩ :: r) j tm hp es = goV C K b d r j tm hp es [] (nilcV (evT tm x)) := by
 rw [go_act _ _ rfl]
 simp only [Cop.args, Qb, Qc, Cop.ids]
 generalize evT tm x = v
 cases v with
 | d x => cases x <;> rfl
 | _ => rfl
def convV (k : IntKind) : V → Option V
 | .d (.i _ n) => some (.d (.i k (k.wrap n)))
 | _ => none
theorem go_conv (k : IntKind) (x : A) : go C K b (⟨some d, .conv k x, none, p⟩ :: r) j tm hp es = goV C K b d r j tm hp es [] (convV k (evT tm x)) := by
 rw [go_act _ _ rfl]
 simp only [Cop.args, Qb, Qc, Cop.ids]
 generalize evT tm x = v
 cases v with
 | d x => cases x <;> rfl
 | _ => rfl
def extV (i : Nat) : V → Option V
 | .tup ws => ws[i]?
 | _ => none
theorem go_ext (x : A) (i : Nat) : go C K b (⟨some d, .ext x i, none, p⟩ :: r) j tm hp es = goV C K b d r j tm hp es [] (extV i (evT tm x)) := by
 rw [go_act _ _ rfl]
 simp only [Cop.args, Qb, Qc, Cop.ids, act]
 generalize evT tm x = v
 cases v with
 | tup ws => simp only [extV]; cases ws[i]? <;> rfl
 | _ => rfl
def memIds : V → List Nat
 | .ptr id _ => [id]
 | .pm id _ _ _ => [id]
 | _ => []
def ldO (ag : Bool) (n off : Nat) : Option Obj → Option V
 | some (.box cs) => asO ag n (takeV cs off n)
 | some (.cst ds) => asO ag n (takeV (ofDs ds) off n)
 | _ => none
def ldR (ag : Bool) (n off : Nat) : Option (List V) → Option V
 | some row => asO ag n (takeV row off n)
 | none => none
def ldA (ag : Bool) (n ver idx off : Nat) : Option Obj → Option V
 | some (.arr ver' _ xs) => if ver = ver' then ldR ag n off xs[idx]? else none
 | _ => none
def ldT (ag : Bool) (n : Nat) (hp : List (Option Obj)) : V → Option V
 | .ptr id off => ldO ag n off (objT hp id)
 | .d (.q ds off) => asO ag n (takeV (ofDs ds) off n)
 | .pm id ver idx off => ldA ag n ver idx off (objT hp id)
 | _ => none
theorem takeV_ofDs (ds : List D) (off n : Nat) : takeV (ofDs ds) off n = (match takeD ds off n with | some c => some (ofDs c) | none => none) := by
 unfold takeV takeD ofDs
 rw [Qf]
 split
 ·simp only [List.map_take, List.map_drop]
 ·rfl
theorem go_ld (ag : Bool) (n : Nat) (x : A) : go C K b (⟨some d, .ld ag n x, none, p⟩ :: r) j tm hp es = goV C K b d r j tm hp es (memIds (evT tm x)) (ldT ag n hp (evT tm x)) := by
 rw [go_act _ _ rfl]
 simp only [Cop.args, Qb, Qc, act]
 have h1 : Cop.ids (.ld ag n x) [evT tm x] = memIds (evT tm x) := by cases evT tm x <;> rfl
 have h2 : ldT ag n hp (evT tm x) = actLd ag n [evT tm x] ((memIds (evT tm x)).map (objT hp)) := by
  cases evT tm x with
  | ptr id off =>
   simp only [ldT, memIds, Qb, Qc]
   cases objT hp id with
   | none => rfl
   | some o =>
    cases o with
    | box cs => simp only [ldO, actLd]; cases takeV cs off n <;> rfl
    | cst ds =>
     simp only [ldO, actLd, takeV_ofDs]
     cases takeD ds off n <;> rfl
    | _ => rfl
  | pm id ver idx off =>
   simp only [ldT, memIds, Qb, Qc]
   cases objT hp id with
   | none => rfl
   | some o =>
    cases o with
    | arr ver' sz xs =>
     simp only [ldA, actLd]
     split
     ·cases xs[idx]? with
      | none => rfl
      | some row => simp only [ldR]; cases takeV row off n <;> rfl
     ·rfl
    | _ => rfl
  | d x =>
   cases x with
   | q ds off =>
    simp only [ldT, memIds, Qc, actLd, takeV_ofDs]
    cases takeD ds off n <;> rfl
   | _ => rfl
  | _ => rfl
 rw [h1, h2]
 cases actLd ag n [evT tm x] ((memIds (evT tm x)).map (objT hp)) <;> rfl
def stO (n id off : Nat) (hp : List (Option Obj)) (c : Option (List V)) : Option Obj → Option (List (Option Obj))
 | some (.box cs) => match c with
  | some c => if c.length = n then match over cs off c with | some cs' => some (hp.set id (some (.box cs'))) | none => none else none
  | none => none
 | _ => none
def stA (n id ver idx off : Nat) (hp : List (Option Obj)) (c : Option (List V)) : Option Obj → Option (List (Option Obj))
 | some (.arr ver' sz xs) => if ver = ver' then match xs[idx]?, c with
   | some row, some c => if c.length = n then match over row off c with | some row' => some (hp.set id (some (.arr ver' sz (xs.set idx row')))) | none => none else none
   | _, _ => none
  else none
 | _ => none
def stT (n : Nat) (hp : List (Option Obj)) : V → V → Option (List (Option Obj))
 | .ptr id off, v => stO n id off hp v.cel (objT hp id)
 | .pm id ver idx off, v => stA n id ver idx off hp v.cel (objT hp id)
 | _, _ => none
def goH (C : CallF) (K : St → List Foot → Prop) (b : Nat) (dst : Option Nat) (r : List CO) (j : Nat) (tm : List (Nat × V)) (es : List Foot) (ids : List Nat) : Option (List (Option Obj)) → Prop
 | none => False
 | some hp => go C K b r j (putT dst .undef tm) hp (⟨ids, true, b + j, 0⟩ :: es)
theorem go_st (dst : Option Nat) (n : Nat) (x y : A) : go C K b (⟨dst, .st n x y, none, p⟩ :: r) j tm hp es = goH C K b dst r j tm es (memIds (evT tm x)) (stT n hp (evT tm x) (evT tm y)) := by
 rw [go_act _ _ rfl]
 simp only [Cop.args, Qb, Qc, act]
 have h1 : ∀ v, Cop.ids (.st n x y) [evT tm x, v] = memIds (evT tm x) := fun v => by cases evT tm x <;> rfl
 rw [h1]
 generalize evT tm y = v
 cases evT tm x with
 | ptr id off =>
  simp only [stT, memIds, Qb, Qc]
  cases objT hp id with
  | none => rfl
  | some o =>
   cases o with
   | box cs =>
    simp only [stO, actSt]
    cases v.cel with
    | none => rfl
    | some c =>
     by_cases hc : c.length = n
     ·simp only [hc, if_true]; cases over cs off c <;> rfl
     ·simp only [hc, if_false]; rfl
   | _ => rfl
 | pm id ver idx off =>
  simp only [stT, memIds, Qb, Qc]
  cases objT hp id with
  | none => rfl
  | some o =>
   cases o with
   | arr ver' sz xs =>
    simp only [stA, actSt]
    by_cases hv : ver = ver'
    ·simp only [hv, if_true]
     cases xs[idx]? with
     | none => rfl
     | some row =>
      cases v.cel with
      | none => rfl
      | some c =>
       by_cases hc : c.length = n
       ·simp only [hc, if_true]; cases over row off c <;> rfl
       ·simp only [hc, if_false]; rfl
    ·simp only [hv, if_false]; rfl
   | _ => rfl
 | _ => rfl
def iaIds : V → List Nat
 | .arr id _ _ _ => [id]
 | _ => []
def rowQ : Option (List D) → Option V
 | some r => some (.d (.q r 0))
 | none => none
def iaO (sz id ver off len : Nat) (i : Int) : Option Obj → Option V
 | some (.arr ver' sz' _) => if ver = ver' ∧ sz' = sz ∧ 0 ≤ i ∧ i < len then some (.pm id ver (off + i.toNat) 0) else none
 | _ => none
def iaT (sz : Nat) (hp : List (Option Obj)) : V → V → Option V
 | .d (.l sz' xs), .d (.i _ i) => if sz' = sz ∧ 0 ≤ i then rowQ xs[i.toNat]? else none
 | .own _ _ sz' xs, .d (.i _ i) => if sz' = sz ∧ 0 ≤ i then rowQ xs[i.toNat]? else none
 | .arr id ver off len, .d (.i _ i) => iaO sz id ver off len i (objT hp id)
 | _, _ => none
theorem go_ia (sz : Nat) (x y : A) : go C K b (⟨some d, .ia sz x y, none, p⟩ :: r) j tm hp es = goV C K b d r j tm hp es (iaIds (evT tm x)) (iaT sz hp (evT tm x) (evT tm y)) := by
 rw [go_act _ _ rfl]
 simp only [Cop.args, Qb, Qc, act]
 have h1 : ∀ v, Cop.ids (.ia sz x y) [evT tm x, v] = iaIds (evT tm x) := fun v => by cases evT tm x <;> rfl
 rw [h1]
 generalize evT tm y = v
 have h2 : iaT sz hp (evT tm x) v = actIa sz [evT tm x, v] ((iaIds (evT tm x)).map (objT hp)) := by
  cases evT tm x with
  | d x =>
   cases x with
   | l sz' xs =>
    cases v with
    | d y =>
     cases y with
     | i k i => simp only [iaT, iaIds, Qc, actIa]; by_cases hc : sz' = sz ∧ 0 ≤ i <;> simp only [hc, and_self, if_true, if_false] <;> first | rfl | (cases xs[i.toNat]? <;> rfl)
     | _ => rfl
    | _ => rfl
   | _ => cases v <;> rfl
  | own id ver sz' xs =>
   cases v with
   | d y =>
    cases y with
    | i k i => simp only [iaT, iaIds, Qc, actIa]; by_cases hc : sz' = sz ∧ 0 ≤ i <;> simp only [hc, and_self, if_true, if_false] <;> first | rfl | (cases xs[i.toNat]? <;> rfl)
    | _ => rfl
   | _ => rfl
  | arr id ver off len =>
   cases v with
   | d y =>
    cases y with
    | i k i =>
     simp only [iaT, iaIds, Qb, Qc]
     cases objT hp id with
     | none => rfl
     | some o => cases o <;> rfl
    | _ => simp only [iaT, iaIds, Qb, Qc]; cases objT hp id with | none => rfl | some o => cases o <;> rfl
   | _ => simp only [iaT, iaIds, Qb, Qc]; cases objT hp id with | none => rfl | some o => cases o <;> rfl
  | _ => rfl
 rw [h2]
 cases actIa sz [evT tm x, v] ((iaIds (evT tm x)).map (objT hp)) <;> rfl
def goB (C : CallF) (K : St → List Foot → Prop) (b d : Nat) (r : List CO) (j : Nat) (tm : List (Nat × V)) (hp : List (Option Obj)) (es : List Foot) : Option (List V) → Prop
 | none => False
 | some c => go C K b r (j + 1) ((d, .ptr (b + j) 0) :: tm) (hp.set (b + j) (some (.box c))) (⟨[], false, b + j, 1⟩ :: es)
theorem go_box (x : A) : go C K b (⟨some d, .box x, none, p⟩ :: r) j tm hp es = goB C K b d r j tm hp es (evT tm x).cel := by
 rw [go_act _ _ rfl]
 simp only [Cop.args, Qb, Qc, act, Cop.ids]
 cases (evT tm x).cel <;> rfl
theorem go_zero (z : V) : go C K b (⟨some d, .zero z, none, p⟩ :: r) j tm hp es = go C K b r (j + 1) ((d, .ptr (b + j) 0) :: tm) (hp.set (b + j) (some (.box z.cells))) (⟨[], false, b + j, 1⟩ :: es) := by
 rw [go_act _ _ rfl]; rfl
def lenV : V → Option V
 | .d (.l _ xs) => some (.d (.i .i64 xs.length))
 | .own _ _ _ xs => some (.d (.i .i64 xs.length))
 | .nil _ => some (.d (.i .i64 0))
 | .arr _ _ _ n => some (.d (.i .i64 n))
 | _ => none
theorem go_len0 (x : A) : go C K b (⟨some d, .len 0 x, none, p⟩ :: r) j tm hp es = match evT tm x with
  | .map id => goAct C K b (some d) (.len 0 x) r j tm hp es [id] none
  | v => goV C K b d r j tm hp es [] (lenV v) := by
 rw [go_act _ _ rfl]
 simp only [Cop.args, Qb, Qc]
 generalize evT tm x = v
 cases v with
 | d x => cases x <;> rfl
 | _ => rfl
def slen : V → Option V
 | .d (.s x) => some (.d (.i .i64 x.length))
 | _ => none
theorem go_len1 (x : A) : go C K b (⟨some d, .len 1 x, none, p⟩ :: r) j tm hp es = match evT tm x with
  | .map id => goAct C K b (some d) (.len 1 x) r j tm hp es [id] none
  | v => goV C K b d r j tm hp es [] (slen v) := by
 rw [go_act _ _ rfl]
 simp only [Cop.args, Qb, Qc]
 generalize evT tm x = v
 cases v with
 | d x => cases x <;> rfl
 | _ => rfl
def buildO (cs : Option (List V)) : Option V := match cs with | some c => some (.agg c) | none => none
theorem go_build (z : List V) (ps : List (Nat × Nat × A)) : go C K b (⟨some d, .build z ps, none, p⟩ :: r) j tm hp es = goV C K b d r j tm hp es [] (buildO (fillV z (ps.map fun q => (q.1, q.2.1, evT tm q.2.2)))) := by
 rw [go_act _ _ rfl]
 have hz : ∀ (ps : List (Nat × Nat × A)), zipP ps ((ps.map (·.2.2)).map (evT tm)) = ps.map fun q => (q.1, q.2.1, evT tm q.2.2) := by
  intro ps
  induction ps with
  | nil => rfl
  | cons q ps ih => obtain ⟨a, c, e⟩ := q; simp only [Qb, zipP, ih]
 simp only [Cop.args, Cop.ids, act, hz]
 cases fillV z (ps.map fun q => (q.1, q.2.1, evT tm q.2.2)) <;> rfl
def goT (C : CallF) (K : St → List Foot → Prop) (b d sz : Nat) (r : List CO) (j : Nat) (tm : List (Nat × V)) (hp : List (Option Obj)) (es : List Foot) : Option (List (List D)) → Prop
 | none => False
 | some xs => go C K b r (j + 1) ((d, .own (b + j) 0 sz xs) :: tm) (hp.set (b + j) (some (.tok 0 sz))) (⟨[], false, b + j, 1⟩ :: es)
theorem go_bsl (sz n : Nat) (z : List D) (ps : List (Nat × A)) : go C K b (⟨some d, .bsl sz n z ps, none, p⟩ :: r) j tm hp es = goT C K b d sz r j tm hp es (fillR sz (List.replicate n z) (ps.map fun q => (q.1, evT tm q.2))) := by
 rw [go_act _ _ rfl]
 have hz : ∀ (ps : List (Nat × A)), zipI ps ((ps.map (·.2)).map (evT tm)) = ps.map fun q => (q.1, evT tm q.2) := by
  intro ps
  induction ps with
  | nil => rfl
  | cons q ps ih => obtain ⟨a, e⟩ := q; simp only [Qb, zipI, ih]
 simp only [Cop.args, Cop.ids, act, hz]
 cases fillR sz (List.replicate n z) (ps.map fun q => (q.1, evT tm q.2)) <;> rfl
def goA2 (C : CallF) (K : St → List Foot → Prop) (b d sz bytes : Nat) (r : List CO) (j : Nat) (tm : List (Nat × V)) (hp : List (Option Obj)) (es : List Foot) (id ver sz' : Nat) (xs ys : List (List D)) : Option Obj → Prop
 | some (.tok ver' sz'') => (ver = ver' ∧ sz' = sz ∧ sz'' = sz ∧ roomy (xs.length + ys.length) bytes = true) ∧ go C K b r (j + 1) ((d, .own id (ver + 1) sz (xs ++ ys)) :: tm) (hp.set id (some (.tok (ver + 1) sz))) (⟨[id], true, b + j, 0⟩ :: es)
 | _ => False
def goA (C : CallF) (K : St → List Foot → Prop) (b d sz bytes : Nat) (r : List CO) (j : Nat) (tm : List (Nat × V)) (hp : List (Option Obj)) (es : List Foot) : V → Option (List (List D)) → Prop
 | .nil _, some ys => roomy ys.length bytes = true ∧ go C K b r (j + 1) ((d, .own (b + j) 0 sz ys) :: tm) (hp.set (b + j) (some (.tok 0 sz))) (⟨[], true, b + j, 1⟩ :: es)
 | .own id ver sz' xs, some ys => goA2 C K b d sz bytes r j tm hp es id ver sz' xs ys (objT hp id)
 | _, _ => False
theorem go_app (sz bytes : Nat) (x y : A) : go C K b (⟨some d, .app sz bytes x y, none, p⟩ :: r) j tm hp es = goA C K b d sz bytes r j tm hp es (evT tm x) (moreOf sz (evT tm y)) := by
 rw [go_act _ _ rfl]
 simp only [Cop.args, Qb, Qc, act]
 generalize evT tm y = v at *
 cases evT tm x with
 | nil sz' =>
  cases hy : moreOf sz v with
  | none => simp only [Cop.ids, Qc, actApp, hy]; rfl
  | some ys =>
   cases hr : roomy ys.length bytes with
   | true => simp only [Cop.ids, Qc, actApp, hy, hr, if_true, goA, true_and]; rfl
   | false => simp only [Cop.ids, Qc, actApp, hy, hr, goA, false_and, Qm, if_false]; rfl
 | own id ver sz' xs =>
  simp only [Cop.ids, Qb, Qc]
  cases hy : moreOf sz v with
  | none =>
   simp only [goA]
   cases objT hp id with
   | none => rfl
   | some o =>
    cases o with
    | tok ver' sz'' => simp only [actApp, hy]; split <;> rfl
    | _ => rfl
  | some ys =>
   simp only [goA]
   cases objT hp id with
   | none => rfl
   | some o =>
    cases o with
    | tok ver' sz'' =>
     simp only [actApp, hy, goA2]
     by_cases hc : ver = ver' ∧ sz' = sz ∧ sz'' = sz
     ·rw [if_pos hc]
      obtain ⟨rfl, rfl, rfl⟩ := hc
      cases hr : roomy (xs.length + ys.length) bytes with
      | true => simp only [if_true, and_self, true_and]; rfl
      | false => simp only [Qm, and_false, false_and, if_false]; rfl
     ·rw [if_neg hc]
      refine propext ⟨fun h => h.elim, fun h => hc ⟨h.1.1, h.1.2.1, h.1.2.2.1⟩⟩
    | _ => rfl
 | _ => rfl
def slcD (sz : Nat) (xs : List (List D)) : Option (Nat × Nat) → Option V
 | some (l, h) => some (.d (.l sz ((xs.take h).drop l)))
 | none => none
def slcO (id ver sz : Nat) (xs : List (List D)) : Option (Nat × Nat) → Option V
 | some (l, h) => if h = xs.length then some (.own id ver sz (xs.drop l)) else some (.d (.l sz ((xs.take h).drop l)))
 | none => none
def slcT (sz : Nat) (hp : List (Option Obj)) (x : V) (lo hi : Option V) : Option V := actSlc sz x lo hi ((iaIds x).map (objT hp))
def slcA (sz id ver off : Nat) (bs : Option (Nat × Nat)) : Option Obj → Option V
 | some (.arr _ sz' _) => if sz' = sz then match bs with
   | some (l, h) => some (.arr id ver (off + l) (h - l))
   | none => none
  else none
 | _ => none
theorem slcT_d (sz : Nat) (hp : List (Option Obj)) (xs : List (List D)) (lo hi : Option V) : slcT sz hp (.d (.l sz xs)) lo hi = slcD sz xs (bounds lo hi xs.length) := by
 simp only [slcT, actSlc, if_true]
 cases bounds lo hi xs.length <;> rfl
theorem slcT_own (id ver sz : Nat) (hp : List (Option Obj)) (xs : List (List D)) (lo hi : Option V) : slcT sz hp (.own id ver sz xs) lo hi = slcO id ver sz xs (bounds lo hi xs.length) := by
 simp only [slcT, actSlc, if_true]
 cases bounds lo hi xs.length <;> rfl
theorem slcT_arr (id ver off len sz : Nat) (hp : List (Option Obj)) (lo hi : Option V) : slcT sz hp (.arr id ver off len) lo hi = slcA sz id ver off (bounds lo hi len) (objT hp id) := by
 simp only [slcT, actSlc, iaIds, Qb, Qc]
 cases objT hp id with
 | none => rfl
 | some o => cases o <;> rfl
theorem slc_iaIds (sz : Nat) (x : A) (lo hi : Option A) (v : V) (r : List V) : Cop.ids (.slc sz x lo hi) (v :: r) = iaIds v := by cases v <;> rfl
theorem go_slc00 (sz : Nat) (x : A) : go C K b (⟨some d, .slc sz x none none, none, p⟩ :: r) j tm hp es = goV C K b d r j tm hp es (iaIds (evT tm x)) (slcT sz hp (evT tm x) none none) := by
 rw [go_act _ _ rfl]
 simp only [Cop.args, Option.toList_none, List.append_nil, Qb, Qc, slc_iaIds, act]
 unfold slcT
 cases actSlc sz (evT tm x) none none ((iaIds (evT tm x)).map (objT hp)) <;> rfl
theorem go_slc10 (sz : Nat) (x lo : A) : go C K b (⟨some d, .slc sz x (some lo) none, none, p⟩ :: r) j tm hp es = goV C K b d r j tm hp es (iaIds (evT tm x)) (slcT sz hp (evT tm x) (some (evT tm lo)) none) := by
 rw [go_act _ _ rfl]
 simp only [Cop.args, Option.toList_none, Option.toList_some, List.append_nil, List.cons_append, List.nil_append, Qb, Qc, slc_iaIds, act]
 unfold slcT
 cases actSlc sz (evT tm x) (some (evT tm lo)) none ((iaIds (evT tm x)).map (objT hp)) <;> rfl
theorem go_slc01 (sz : Nat) (x hi : A) : go C K b (⟨some d, .slc sz x none (some hi), none, p⟩ :: r) j tm hp es = goV C K b d r j tm hp es (iaIds (evT tm x)) (slcT sz hp (evT tm x) none (some (evT tm hi))) := by
 rw [go_act _ _ rfl]
 simp only [Cop.args, Option.toList_none, Option.toList_some, List.append_nil, List.cons_append, List.nil_append, Qb, Qc, slc_iaIds, act]
 unfold slcT
 cases actSlc sz (evT tm x) none (some (evT tm hi)) ((iaIds (evT tm x)).map (objT hp)) <;> rfl
theorem go_slc11 (sz : Nat) (x lo hi : A) : go C K b (⟨some d, .slc sz x (some lo) (some hi), none, p⟩ :: r) j tm hp es = goV C K b d r j tm hp es (iaIds (evT tm x)) (slcT sz hp (evT tm x) (some (evT tm lo)) (some (evT tm hi))) := by
 rw [go_act _ _ rfl]
 simp only [Cop.args, Option.toList_some, List.cons_append, List.nil_append, Qb, Qc, slc_iaIds, act]
 unfold slcT
 cases actSlc sz (evT tm x) (some (evT tm lo)) (some (evT tm hi)) ((iaIds (evT tm x)).map (objT hp)) <;> rfl
def eqbV (neg : Bool) : V → V → Option V
 | .d (.b x), .d (.b y) => some (.d (.b (if neg then x != y else x == y)))
 | _, _ => none
theorem go_eqb (neg : Bool) (x y : A) : go C K b (⟨some d, .eqb neg x y, none, p⟩ :: r) j tm hp es = goV C K b d r j tm hp es [] (eqbV neg (evT tm x) (evT tm y)) := by
 rw [go_act _ _ rfl]
 simp only [Cop.args, Qb, Qc, Cop.ids, act]
 generalize evT tm x = u
 generalize evT tm y = v
 cases u with
 | d u =>
  cases u with
  | b u =>
   cases v with
   | d v => cases v <;> rfl
   | _ => rfl
  | _ => rfl
 | _ => rfl
theorem eqbV_eq (x y : Bool) : eqbV false (.d (.b x)) (.d (.b y)) = some (.d (.b (decide (x = y)))) := by cases x <;> cases y <;> rfl
theorem eqbV_ne (x y : Bool) : eqbV true (.d (.b x)) (.d (.b y)) = some (.d (.b (decide (¬ x = y)))) := by cases x <;> cases y <;> rfl
def nilsV (neg : Bool) (x : V) : Option V := match nilSlice x with
 | some r => some (.d (.b (if neg then !r else r)))
 | none => none
theorem go_nils (neg : Bool) (x : A) : go C K b (⟨some d, .nils neg x, none, p⟩ :: r) j tm hp es = goV C K b d r j tm hp es [] (nilsV neg (evT tm x)) := by
 rw [go_act _ _ rfl]
 simp only [Cop.args, Qb, Qc, Cop.ids, act, nilsV]
 cases nilSlice (evT tm x) <;> rfl
def ixO : Option UInt8 → Option V
 | some c => some (.d (.i .u8 c.toNat))
 | none => none
def ixsV : V → V → Option V
 | .d (.s x), .d (.i _ i) => if 0 ≤ i then ixO x[i.toNat]? else none
 | _, _ => none
theorem go_ixs (x y : A) : go C K b (⟨some d, .ixs x y, none, p⟩ :: r) j tm hp es = goV C K b d r j tm hp es [] (ixsV (evT tm x) (evT tm y)) := by
 rw [go_act _ _ rfl]
 simp only [Cop.args, Qb, Qc, Cop.ids, act]
 generalize evT tm x = u
 generalize evT tm y = v
 cases u with
 | d u =>
  cases u with
  | s u =>
   cases v with
   | d v =>
    cases v with
    | i k i =>
     simp only [ixsV]
     by_cases h : 0 ≤ i
     ·simp only [h, if_true]; cases u[i.toNat]? <;> rfl
     ·simp only [h, if_false]; rfl
    | _ => rfl
   | _ => rfl
  | _ => rfl
 | _ => rfl
def slsO (x : List UInt8) : Option (Nat × Nat) → Option V
 | some (l, h) => some (.d (.s ((x.take h).drop l)))
 | none => none
def slsV (lo hi : Option V) : V → Option V
 | .d (.s x) => slsO x (bounds lo hi x.length)
 | _ => none
theorem go_sls10 (x lo : A) : go C K b (⟨some d, .sls x (some lo) none, none, p⟩ :: r) j tm hp es = goV C K b d r j tm hp es [] (slsV (some (evT tm lo)) none (evT tm x)) := by
 rw [go_act _ _ rfl]
 simp only [Cop.args, Option.toList, List.append_nil, Qb, Qc, Cop.ids, act, List.cons_append, List.nil_append]
 generalize evT tm x = u
 cases u with
 | d u =>
  cases u with
  | s u => simp only [slsV]; cases bounds (some (evT tm lo)) none u.length <;> rfl
  | _ => rfl
 | _ => rfl
theorem go_sls01 (x hi : A) : go C K b (⟨some d, .sls x none (some hi), none, p⟩ :: r) j tm hp es = goV C K b d r j tm hp es [] (slsV none (some (evT tm hi)) (evT tm x)) := by
 rw [go_act _ _ rfl]
 simp only [Cop.args, Option.toList, List.append_nil, Qb, Qc, Cop.ids, act, List.cons_append, List.nil_append]
 generalize evT tm x = u
 cases u with
 | d u =>
  cases u with
  | s u => simp only [slsV]; cases bounds none (some (evT tm hi)) u.length <;> rfl
  | _ => rfl
 | _ => rfl
theorem go_sls11 (x lo hi : A) : go C K b (⟨some d, .sls x (some lo) (some hi), none, p⟩ :: r) j tm hp es = goV C K b d r j tm hp es [] (slsV (some (evT tm lo)) (some (evT tm hi)) (evT tm x)) := by
 rw [go_act _ _ rfl]
 simp only [Cop.args, Option.toList, Qb, Qc, Cop.ids, act, List.cons_append, List.nil_append]
 generalize evT tm x = u
 cases u with
 | d u =>
  cases u with
  | s u => simp only [slsV]; cases bounds (some (evT tm lo)) (some (evT tm hi)) u.length <;> rfl
  | _ => rfl
 | _ => rfl
def btsO : Option (List UInt8) → Option V
 | some b => some (.d (.s b))
 | none => none
theorem go_bts (x : A) : go C K b (⟨some d, .bts x, none, p⟩ :: r) j tm hp es = goV C K b d r j tm hp es [] (btsO (bytesV (evT tm x))) := by
 rw [go_act _ _ rfl]
 simp only [Cop.args, Qb, Qc, Cop.ids, act]
 cases bytesV (evT tm x) <;> rfl
def btsC (n : Int) : Option (List UInt8) → Option (List UInt8)
 | some b => some (UInt8.ofNat n.toNat :: b)
 | none => none
theorem bytesR_cons (n : Int) (r : List (List D)) : bytesR ([.i .u8 n] :: r) = btsC n (bytesR r) := by
 rw [bytesR]
 cases bytesR r <;> rfl
def repD (n : Nat) (z : List D) : List (List D) := List.replicate n z
def repB (n : Nat) : List UInt8 := List.replicate n 0
theorem bytesR_rep : ∀ (n : Nat), bytesR (repD n [.i .u8 0]) = some (repB n)
 | 0 => rfl
 | n + 1 => by
  have := bytesR_rep n
  unfold repD repB at *
  rw [List.replicate_succ, bytesR_cons, this]; rfl
def mksO (sz bytes fresh : Nat) (z : List D) (ow : Bool) : V → V → Option (V × Obj)
 | .d (.i _ l), .d (.i _ c) => if 0 ≤ l ∧ l ≤ c ∧ roomy c.toNat bytes then
   if l = 0 ∨ ow = true then some (.own fresh 0 sz (List.replicate l.toNat z), .tok 0 sz)
   else if l = c then some (.arr fresh 0 0 l.toNat, .arr 0 sz (List.replicate l.toNat (ofDs z))) else none
  else none
 | _, _ => none
def goN (C : CallF) (K : St → List Foot → Prop) (b d : Nat) (r : List CO) (j : Nat) (tm : List (Nat × V)) (hp : List (Option Obj)) (es : List Foot) : Option (V × Obj) → Prop
 | none => False
 | some (v, o) => go C K b r (j + 1) ((d, v) :: tm) (hp.set (b + j) (some o)) (⟨[], false, b + j, 1⟩ :: es)
theorem go_mks (sz bytes : Nat) (z : List D) (ow : Bool) (x y : A) : go C K b (⟨some d, .mks sz bytes z ow x y, none, p⟩ :: r) j tm hp es = goN C K b d r j tm hp es (mksO sz bytes (b + j) z ow (evT tm x) (evT tm y)) := by
 rw [go_act _ _ rfl]
 simp only [Cop.args, Qb, Qc, Cop.ids, act]
 generalize evT tm x = u
 generalize evT tm y = v
 cases u with
 | d u =>
  cases u with
  | i k l =>
   cases v with
   | d v =>
    cases v with
    | i k' c =>
     simp only [mksO]
     by_cases h1 : 0 ≤ l ∧ l ≤ c ∧ roomy c.toNat bytes = true
     ·rw [if_pos h1, if_pos h1]
      by_cases h2 : l = 0 ∨ ow = true
      ·rw [if_pos h2, if_pos h2]; rfl
      ·rw [if_neg h2, if_neg h2]
       by_cases h3 : l = c
       ·rw [if_pos h3, if_pos h3]; rfl
       ·rw [if_neg h3, if_neg h3]; rfl
     ·rw [if_neg h1, if_neg h1]; rfl
    | _ => rfl
   | _ => rfl
  | _ => rfl
 | _ => rfl
def rng : Nat → Nat → List Nat
 | _, 0 => []
 | i, n + 1 => i :: rng (i + 1) n
theorem rng_eq : ∀ (n i : Nat), rng i n = List.range' i n
 | 0, i => rfl
 | n + 1, i => by rw [rng, rng_eq n, List.range'_succ]
def res3 (vs : List V) (L : List Nat) : Option (List (Option Obj)) → Option (V × List (Option Obj))
 | some h => some (V.ren (placeOf L) noShift (answer vs), h)
 | none => none
def res2 (vs : List V) (hp : List (Option Obj)) : Option (List Nat) → Option (V × List (Option Obj))
 | some L => res3 vs L (renObjs (placeOf L) noShift 0 (L.map (objT hp)))
 | none => none
def res1 (m : Nat) (hp : List (Option Obj)) : Option (List V) → Option (V × List (Option Obj))
 | some vs => res2 vs hp (reach (objT hp) far (rng 0 m ++ V.refsAll vs) [])
 | none => none
theorem result_res (m : Nat) (rs : List Ret) : result m ⟨tm, hp⟩ rs = res1 m hp (retAll ⟨tm, hp⟩ rs) := by
 unfold result
 cases retAll ⟨tm, hp⟩ rs with
 | none => rfl
 | some vs =>
  simp only [res1]
  rw [rng_eq, ← List.range_eq_range']
  show (match reach (objT hp) far (List.range m ++ V.refsAll vs) [] with | none => none | some L => _) = _
  cases reach (objT hp) far (List.range m ++ V.refsAll vs) [] with
  | none => rfl
  | some L =>
   simp only [res2]
   show (match renObjs (placeOf L) noShift 0 (L.map (objT hp)) with | none => none | some h => _) = _
   cases renObjs (placeOf L) noShift 0 (L.map (objT hp)) <;> rfl
def ownS (tm : List (Nat × V)) (hp : List (Option Obj)) (t : Nat) : V → St
 | .nil sz => ⟨(t, .own hp.length 0 sz []) :: tm, hp ++ [some (.tok 0 sz)]⟩
 | _ => ⟨tm, hp⟩
def slotsS : List Nat → St → St
 | [], s => s
 | t :: r, s => slotsS r (ownSlot s t)
def boxesS : List (Nat × Nat) → St → St
 | [], s => s
 | t :: r, s => boxesS r (ownBox s t)
theorem ownSlot_ownS (t : Nat) : ownSlot ⟨tm, hp⟩ t = ownS tm hp t (look tm t) := by
 unfold ownSlot
 show (match look tm t with | .nil sz => _ | _ => _) = _
 cases look tm t <;> rfl
def keepT (tm : List (Nat × V)) : List Nat → List (Nat × V)
 | [] => []
 | t :: r => (t, look tm t) :: keepT tm r
theorem keepT_eq (tm : List (Nat × V)) (hp : List (Option Obj)) : ∀ (l : List Nat), keepTmps ⟨tm, hp⟩ l = keepT tm l
 | [] => rfl
 | t :: r => by rw [keepTmps, keepT, keepT_eq tm hp r]; rfl
def keepS (l : List Nat) : St → St
 | ⟨tm, hp⟩ => ⟨keepT tm l, hp⟩
def datsS : List Nat → St → St
 | [], s => s
 | t :: r, s => datsS r (datSlot s t)
def datBs : List (Nat × Nat) → St → St
 | [], s => s
 | t :: r, s => datBs r (datBox s t)
theorem dats_eq (k o : List Nat) (ob : List (Nat × Nat)) (da : List Nat) (db : List (Nat × Nat)) (tr : Bool) (s : St) : dats ⟨k, o, ob, da, db, tr⟩ s = datBs db (datsS da s) := by
 have h1 : ∀ (l : List Nat) (s : St), l.foldl datSlot s = datsS l s := by
  intro l
  induction l with
  | nil => intro s; rfl
  | cons t l ih => intro s; exact ih _
 have h2 : ∀ (l : List (Nat × Nat)) (s : St), l.foldl datBox s = datBs l s := by
  intro l
  induction l with
  | nil => intro s; rfl
  | cons t l ih => intro s; exact ih _
 unfold dats
 simp only [h1, h2]
def datB3 (tm : List (Nat × V)) (hp : List (Option Obj)) (id k : Nat) (cs : List V) : Option V → St
 | some v => ⟨tm, hp.set id (some (.box (cs.set k (datC v))))⟩
 | none => ⟨tm, hp⟩
def datB2 (tm : List (Nat × V)) (hp : List (Option Obj)) (id k : Nat) : Option Obj → St
 | some (.box cs) => datB3 tm hp id k cs cs[k]?
 | _ => ⟨tm, hp⟩
def datB1 (tm : List (Nat × V)) (hp : List (Option Obj)) (c : Nat) : V → St
 | .ptr id off => datB2 tm hp id (off + c) (objT hp id)
 | _ => ⟨tm, hp⟩
theorem datBox_eq (t c : Nat) : datBox ⟨tm, hp⟩ (t, c) = datB1 tm hp c (look tm t) := by
 unfold datBox
 show (match look tm t with | .ptr id off => _ | _ => _) = _
 cases look tm t with
 | ptr id off =>
  simp only [datB1]
  show (match objT hp id with | some (.box cs) => _ | _ => _) = _
  cases objT hp id with
  | none => rfl
  | some o =>
   cases o with
   | box cs => simp only [datB2]; cases cs[off + c]? <;> rfl
   | _ => rfl
 | _ => rfl
def ownB3 (tm : List (Nat × V)) (hp : List (Option Obj)) (id k : Nat) (cs : List V) : Option V → St
 | some (.nil sz) => ⟨tm, (hp.set id (some (.box (cs.set k (.own hp.length 0 sz []))))) ++ [some (.tok 0 sz)]⟩
 | _ => ⟨tm, hp⟩
def ownB2 (tm : List (Nat × V)) (hp : List (Option Obj)) (id k : Nat) : Option Obj → St
 | some (.box cs) => ownB3 tm hp id k cs cs[k]?
 | _ => ⟨tm, hp⟩
def ownB1 (tm : List (Nat × V)) (hp : List (Option Obj)) (c : Nat) : V → St
 | .ptr id off => ownB2 tm hp id (off + c) (objT hp id)
 | _ => ⟨tm, hp⟩
def ownB0 (tm : List (Nat × V)) (hp : List (Option Obj)) (t c : Nat) : V → St
 | .nil sz => ⟨(t, .arr hp.length 0 0 0) :: tm, hp ++ [some (.arr 0 sz [])]⟩
 | v => ownB1 tm hp c v
theorem ownBox_eq (t c : Nat) : ownBox ⟨tm, hp⟩ (t, c) = ownB0 tm hp t c (look tm t) := by
 unfold ownBox
 show (match look tm t with | .ptr id off => _ | .nil sz => _ | _ => _) = _
 cases look tm t with
 | ptr id off =>
  simp only [ownB0, ownB1]
  show (match objT hp id with | some (.box cs) => _ | _ => _) = _
  cases objT hp id with
  | none => rfl
  | some o =>
   cases o with
   | box cs =>
    simp only [ownB2]
    cases cs[off + c]? with
    | none => rfl
    | some v => cases v <;> rfl
   | _ => rfl
 | _ => rfl
theorem enter_eq (k o : List Nat) (ob : List (Nat × Nat)) (da : List Nat) (db : List (Nat × Nat)) (tr : Bool) (s : St) : enter ⟨k, o, ob, da, db, tr⟩ s = keepS k (datBs db (datsS da (boxesS ob (slotsS o s)))) := by
 have h1 : ∀ (l : List Nat) (s : St), l.foldl ownSlot s = slotsS l s := by
  intro l
  induction l with
  | nil => intro s; rfl
  | cons t l ih => intro s; exact ih _
 have h2 : ∀ (l : List (Nat × Nat)) (s : St), l.foldl ownBox s = boxesS l s := by
  intro l
  induction l with
  | nil => intro s; rfl
  | cons t l ih => intro s; exact ih _
 unfold enter
 simp only [h1, h2, dats_eq]
 cases datBs db (datsS da (boxesS ob (slotsS o s))) with
 | mk tm hp => simp only [keepS, keepT_eq]
def backT (n : Nat) (tm : List (Nat × V)) (h : List (Option Obj)) : Option St := if underTmps n tm && underH n h then some ⟨normTmps h tm, normH h h⟩ else none
where
 underH (n : Nat) : List (Option Obj) → Bool
  | [] => true
  | o :: r => Obj.under n o && underH n r
 normH (h : List (Option Obj)) : List (Option Obj) → List (Option Obj)
  | [] => []
  | o :: r => normObj h o :: normH h r
theorem underH_eq (n : Nat) : ∀ (h : List (Option Obj)), backT.underH n h = h.all (Obj.under n)
 | [] => rfl
 | o :: r => by simp [backT.underH, underH_eq n r]
theorem normH_eq (h : List (Option Obj)) : ∀ (l : List (Option Obj)), backT.normH h l = l.map (normObj h)
 | [] => rfl
 | o :: r => by simp [backT.normH, normH_eq h r]
def backS (k : List Nat) (n : Nat) : St → Option St
 | ⟨tm, hp⟩ => backT n (keepT tm k) (hp.take n)
def backS' (k : List Nat) : St → Option St
 | ⟨tm, hp⟩ => some ⟨keepT tm k, hp⟩
theorem back_eq (k o : List Nat) (ob : List (Nat × Nat)) (da : List Nat) (db : List (Nat × Nat)) (n : Nat) (s : St) : back ⟨k, o, ob, da, db, true⟩ n s = backS k n (datBs db (datsS da s)) := by
 unfold back
 simp only [dats_eq]
 cases datBs db (datsS da s) with
 | mk tm hp => simp only [if_true, keepT_eq, underH_eq, normH_eq, backS, backT]
theorem back_eq' (k o : List Nat) (ob : List (Nat × Nat)) (da : List Nat) (db : List (Nat × Nat)) (n : Nat) (s : St) : back ⟨k, o, ob, da, db, false⟩ n s = backS' k (datBs db (datsS da s)) := by
 unfold back
 simp only [dats_eq]
 cases datBs db (datsS da s) with
 | mk tm hp => simp only [Qm, if_false, keepT_eq, backS']
def normO (id ver sz : Nat) (xs : List (List D)) : Option Obj → V
 | some (.tok ver' _) => if ver = ver' then .own id 0 sz xs else .d (.l sz xs)
 | _ => .d (.l sz xs)
theorem normC_own (h : List (Option Obj)) (id ver sz : Nat) (xs : List (List D)) : normC h (.own id ver sz xs) = normO id ver sz xs (objT h id) := by
 simp only [normC, objT]
 generalize (h[id]?).join = o
 cases o with
 | none => rfl
 | some o => cases o <;> rfl
def normA (id ver off len : Nat) : Option Obj → V
 | some (.arr ver' _ _) => if ver = ver' then .arr id ver off len else .bad
 | _ => .bad
theorem normC_arr (h : List (Option Obj)) (id ver off len : Nat) : normC h (.arr id ver off len) = normA id ver off len (objT h id) := by
 simp only [normC, objT]
 generalize (h[id]?).join = o
 cases o with
 | none => rfl
 | some o => cases o <;> rfl
end
open Go
def evL (tm : List (Nat × V)) : List A → List V
 | [] => []
 | a :: r => evT tm a :: evL tm r
theorem evL_eq (tm : List (Nat × V)) : ∀ (as : List A), evL tm as = as.map (evT tm)
 | [] => rfl
 | a :: r => by simp [evL, evL_eq tm r]
def evP (tm : List (Nat × V)) (ps : List (Nat × Nat × A)) : List (Nat × Nat × V) := ps.map fun q => (q.1, q.2.1, evT tm q.2.2)
def evI (tm : List (Nat × V)) (ps : List (Nat × A)) : List (Nat × V) := ps.map fun q => (q.1, evT tm q.2)
def goL0 (C : CallF) (K : St → List Foot → Prop) (b d : Nat) (r : List CO) (j : Nat) (tm : List (Nat × V)) (hp : List (Option Obj)) (es : List Foot) (x : A) (v : V) : Prop := match v with
 | .map id => goAct C K b (some d) (.len 0 x) r j tm hp es [id] none
 | v => goV C K b d r j tm hp es [] (lenV v)
def goL1 (C : CallF) (K : St → List Foot → Prop) (b d : Nat) (r : List CO) (j : Nat) (tm : List (Nat × V)) (hp : List (Option Obj)) (es : List Foot) (x : A) (v : V) : Prop := match v with
 | .map id => goAct C K b (some d) (.len 1 x) r j tm hp es [id] none
 | v => goV C K b d r j tm hp es [] (slen v)
def setO (hp : List (Option Obj)) (id : Nat) : Option (List V) → Option (List (Option Obj))
 | some cs => some (hp.set id (some (.box cs)))
 | none => none
def fill2 (cs : Option (List V)) (r : List (Nat × Nat × V)) : Option (List V) := match cs with | some cs => fillV cs r | none => none
def fill1 (cs : List V) (o n : Nat) (c : Option (List V)) (r : List (Nat × Nat × V)) : Option (List V) := match c with
 | some c => if c.length = n then fill2 (over cs o c) r else none
 | none => none
def fillR1 (sz : Nat) (xs : List (List D)) (i : Nat) (r : List (Nat × V)) (ds : Option (List D)) : Option (List (List D)) := match ds with
 | some ds => if ds.length = sz ∧ i < xs.length then fillR sz (xs.set i ds) r else none
 | none => none
def consO (x : Option D) (r : Option (List D)) : Option (List D) := match x, r with | some x, some r => some (x :: r) | _, _ => none
def retB (ag : Bool) (n off : Nat) : Option Obj → Option V
 | some (.box cs) => match asO ag n (takeV cs off n) with | some v => v.hand | none => none
 | _ => none
def retC (ag : Bool) (n : Nat) (hp : List (Option Obj)) : V → Option V
 | .ptr id off => match (hp[id]?).join with
  | some (.box cs) => match takeV cs off n with
   | some c => match asVar ag n c with | some v => v.hand | none => none
   | none => none
  | _ => none
 | _ => none
def handO : Option V → Option V
 | some v => v.hand
 | none => none
def consV (x : Option V) (r : Option (List V)) : Option (List V) := match x, r with | some x, some r => some (x :: r) | _, _ => none
def consB (o : Obj) (r : Option (List (Option Obj))) : Option (List (Option Obj)) := match r with | some r => some (some o :: r) | none => none
def aggO (x : Option (List V)) : Option V := match x with | some x => some (.agg x) | none => none
theorem evW :
  (∀ (C : CallF) (K : St → List Foot → Prop) (b j : Nat) (tm : List (Nat × V)) (hp : List (Option Obj)) (es : List Foot), go C K b [] j tm hp es = K ⟨tm, hp⟩ es.reverse) ∧
  (∀ C K b r j tm hp es (d p : Nat) (x : A), go C K b (⟨some d, .mv x, none, p⟩ :: r) j tm hp es = go C K b r j ((d, evT tm x) :: tm) hp (⟨[], false, b + j, 0⟩ :: es)) ∧
  (∀ C K b r j tm hp es (d p : Nat) (op : BinOp) (x y : A), go C K b (⟨some d, .bin op x y, none, p⟩ :: r) j tm hp es = goV C K b d r j tm hp es [] (oD (binOp op (evT tm x) (evT tm y)))) ∧
  (∀ C K b r j tm hp es (d p : Nat) (op : UnOp) (x : A), go C K b (⟨some d, .un op x, none, p⟩ :: r) j tm hp es = goV C K b d r j tm hp es [] (oD (unOp op (evT tm x)))) ∧
  (∀ C K b r j tm hp es (d p : Nat) (x y z : A), go C K b (⟨some d, .pick x y z, none, p⟩ :: r) j tm hp es = goV C K b d r j tm hp es [] (pickV (evT tm x) (evT tm y) (evT tm z))) ∧
  (∀ C K b r j tm hp es (d p o : Nat) (x : A), go C K b (⟨some d, .fa o x, none, p⟩ :: r) j tm hp es = goV C K b d r j tm hp es [] (faV o (evT tm x))) ∧
  (∀ C K b r j tm hp es (d p : Nat) (ag : Bool) (o n : Nat) (x : A), go C K b (⟨some d, .fl ag o n x, none, p⟩ :: r) j tm hp es = goV C K b d r j tm hp es [] (flV ag o n (evT tm x))) ∧
  (∀ C K b r j tm hp es (d p : Nat) (x : A), go C K b (⟨some d, .nilc x, none, p⟩ :: r) j tm hp es = goV C K b d r j tm hp es [] (nilcV (evT tm x))) ∧
  (∀ C K b r j tm hp es (d p : Nat) (k : IntKind) (x : A), go C K b (⟨some d, .conv k x, none, p⟩ :: r) j tm hp es = goV C K b d r j tm hp es [] (convV k (evT tm x))) ∧
  (∀ C K b r j tm hp es (d p i : Nat) (x : A), go C K b (⟨some d, .ext x i, none, p⟩ :: r) j tm hp es = goV C K b d r j tm hp es [] (extV i (evT tm x))) ∧
  (∀ C K b r j tm hp es (d p : Nat) (ag : Bool) (n : Nat) (x : A), go C K b (⟨some d, .ld ag n x, none, p⟩ :: r) j tm hp es = goV C K b d r j tm hp es (memIds (evT tm x)) (ldT ag n hp (evT tm x))) ∧
  (∀ C K b r j tm hp es (dst : Option Nat) (p n : Nat) (x y : A), go C K b (⟨dst, .st n x y, none, p⟩ :: r) j tm hp es = goH C K b dst r j tm es (memIds (evT tm x)) (stT n hp (evT tm x) (evT tm y))) ∧
  (∀ C K b r j tm hp es (d p sz : Nat) (x y : A), go C K b (⟨some d, .ia sz x y, none, p⟩ :: r) j tm hp es = goV C K b d r j tm hp es (iaIds (evT tm x)) (iaT sz hp (evT tm x) (evT tm y))) ∧
  (∀ C K b r j tm hp es (d p : Nat) (x : A), go C K b (⟨some d, .box x, none, p⟩ :: r) j tm hp es = goB C K b d r j tm hp es (evT tm x).cel) ∧
  (∀ C K b r j tm hp es (d p : Nat) (z : V), go C K b (⟨some d, .zero z, none, p⟩ :: r) j tm hp es = go C K b r (j + 1) ((d, .ptr (b + j) 0) :: tm) (hp.set (b + j) (some (.box z.cells))) (⟨[], false, b + j, 1⟩ :: es)) ∧
  (∀ C K b r j tm hp es (d p : Nat) (x : A), go C K b (⟨some d, .len 0 x, none, p⟩ :: r) j tm hp es = goL0 C K b d r j tm hp es x (evT tm x)) ∧
  (∀ C K b r j tm hp es (d p : Nat) (x : A), go C K b (⟨some d, .len 1 x, none, p⟩ :: r) j tm hp es = goL1 C K b d r j tm hp es x (evT tm x)) ∧
  (∀ C K b r j tm hp es (d p : Nat) (z : List V) (ps : List (Nat × Nat × A)), go C K b (⟨some d, .build z ps, none, p⟩ :: r) j tm hp es = goV C K b d r j tm hp es [] (buildO (fillV z (evP tm ps)))) ∧
  (∀ C K b r j tm hp es (d p sz n : Nat) (z : List D) (ps : List (Nat × A)), go C K b (⟨some d, .bsl sz n z ps, none, p⟩ :: r) j tm hp es = goT C K b d sz r j tm hp es (fillR sz (List.replicate n z) (evI tm ps))) ∧
  (∀ C K b r j tm hp es (dst : Option Nat) (p key res : Nat) (as : List A) (fz : Bool), go C K b (⟨dst, .call key as res fz, none, p⟩ :: r) j tm hp es = goCall C K b dst res r j tm hp es (ent1 (frzCall (mdOf fz) C) (objT hp) key res (b + j) (V.handAll (evL tm as)))) ∧
  (∀ C K b r j tm hp es (dst : Option Nat) (p res : Nat) (f : A) (as : List A) (fz : Bool), go C K b (⟨dst, .callv f as res fz, none, p⟩ :: r) j tm hp es = goCallv C K b dst res fz r j tm hp es (calleeV (evT tm f) (evL tm as))) ∧
  (∀ C K b r j tm hp es (dst : Option Nat) (op : Cop) (p t : Nat) (want : Bool), go C K b (⟨dst, op, some (t, want), p⟩ :: r) j tm hp es = goG C K b dst op p r j tm hp es (gd want (look tm t))) ∧
  (∀ C K b r j tm hp es (d : Nat) (ids : List Nat) (v : V), goV C K b d r j tm hp es ids (some v) = go C K b r j ((d, v) :: tm) hp (⟨ids, false, b + j, 0⟩ :: es)) ∧
  (∀ C K b r j tm hp es (dst : Option Nat) (ids : List Nat), goH C K b dst r j tm es ids (some hp) = go C K b r j (putT dst .undef tm) hp (⟨ids, true, b + j, 0⟩ :: es)) ∧
  (∀ C K b r j tm hp es (d : Nat) (c : List V), goB C K b d r j tm hp es (some c) = go C K b r (j + 1) ((d, .ptr (b + j) 0) :: tm) (hp.set (b + j) (some (.box c))) (⟨[], false, b + j, 1⟩ :: es)) ∧
  (∀ C K b r j tm hp es (d sz : Nat) (xs : List (List D)), goT C K b d sz r j tm hp es (some xs) = go C K b r (j + 1) ((d, .own (b + j) 0 sz xs) :: tm) (hp.set (b + j) (some (.tok 0 sz))) (⟨[], false, b + j, 1⟩ :: es)) ∧
  (∀ C K b r j tm hp es (dst : Option Nat) (op : Cop) (p : Nat), goG C K b dst op p r j tm hp es (some true) = go C K b (⟨dst, op, none, p⟩ :: r) j tm hp es) ∧
  (∀ C K b r j tm hp es (dst : Option Nat) (op : Cop) (p : Nat), goG C K b dst op p r j tm hp es (some false) = go C K b r (j + op.nmk) (putT dst .undef tm) hp (⟨[], false, b + j, 0⟩ :: es)) ∧
  (∀ C K b r j tm hp es (dst : Option Nat) (n : Nat) (v : V) (is : List Nat) (os ns : List (Option Obj)), goCall C K b dst n r j tm hp es (some (v, is, os, ns)) = go C K b r (j + n) (putT dst v tm) (setObjs (setObjs hp is os) (List.range' (b + j) ns.length) ns) (⟨is, true, b + j, ns.length⟩ :: es)) ∧
  (∀ C K b r j tm hp es (dst : Option Nat) (res : Nat) (fz : Bool) (key : Nat) (as : List V), goCallv C K b dst res fz r j tm hp es (some (key, as)) = goCall C K b dst res r j tm hp es (ent1 (frzCall (mdOf fz) C) (objT hp) key res (b + j) (V.handAll as))) ∧
  (∀ C K b r j tm hp es (d sz : Nat) (xs : List (List D)) (x : A), goL0 C K b d r j tm hp es x (.d (.l sz xs)) = go C K b r j ((d, .d (.i .i64 (xs.length : Int))) :: tm) hp (⟨[], false, b + j, 0⟩ :: es)) ∧
  (∀ C K b r j tm hp es (d sz : Nat) (xs : List (List D)) (id ver : Nat) (x : A), goL0 C K b d r j tm hp es x (.own id ver sz xs) = go C K b r j ((d, .d (.i .i64 (xs.length : Int))) :: tm) hp (⟨[], false, b + j, 0⟩ :: es)) ∧
  (∀ C K b r j tm hp es (d sz : Nat) (x : A), goL0 C K b d r j tm hp es x (.nil sz) = go C K b r j ((d, .d (.i .i64 (0 : Int))) :: tm) hp (⟨[], false, b + j, 0⟩ :: es)) ∧
  (∀ C K b r j tm hp es (d : Nat) (id ver off n : Nat) (x : A), goL0 C K b d r j tm hp es x (.arr id ver off n) = go C K b r j ((d, .d (.i .i64 (n : Int))) :: tm) hp (⟨[], false, b + j, 0⟩ :: es)) ∧
  (∀ C K b r j tm hp es (d : Nat) (x : A) (t : List UInt8), goL1 C K b d r j tm hp es x (.d (.s t)) = go C K b r j ((d, .d (.i .i64 t.length)) :: tm) hp (⟨[], false, b + j, 0⟩ :: es)) ∧
  (∀ C K b r j tm hp es (d p sz bytes : Nat) (x y : A), go C K b (⟨some d, .app sz bytes x y, none, p⟩ :: r) j tm hp es = goA C K b d sz bytes r j tm hp es (evT tm x) (moreOf sz (evT tm y))) ∧
  (∀ C K b r j tm hp es (d sz bytes sz' : Nat) (ys : List (List D)), goA C K b d sz bytes r j tm hp es (.nil sz') (some ys) = (roomy ys.length bytes = true ∧ go C K b r (j + 1) ((d, .own (b + j) 0 sz ys) :: tm) (hp.set (b + j) (some (.tok 0 sz))) (⟨[], true, b + j, 1⟩ :: es))) ∧
  (∀ C K b r j tm hp es (d sz bytes id ver sz' : Nat) (xs ys : List (List D)), goA C K b d sz bytes r j tm hp es (.own id ver sz' xs) (some ys) = goA2 C K b d sz bytes r j tm hp es id ver sz' xs ys (objT hp id)) ∧
  (∀ C K b r j tm hp es (d sz bytes id ver sz' v s : Nat) (xs ys : List (List D)), goA2 C K b d sz bytes r j tm hp es id ver sz' xs ys (some (.tok v s)) = ((ver = v ∧ sz' = sz ∧ s = sz ∧ roomy (xs.length + ys.length) bytes = true) ∧ go C K b r (j + 1) ((d, .own id (ver + 1) sz (xs ++ ys)) :: tm) (hp.set id (some (.tok (ver + 1) sz))) (⟨[id], true, b + j, 0⟩ :: es))) ∧
  (∀ C K b r j tm hp es (d p sz : Nat) (x : A), go C K b (⟨some d, .slc sz x none none, none, p⟩ :: r) j tm hp es = goV C K b d r j tm hp es (iaIds (evT tm x)) (slcT sz hp (evT tm x) none none)) ∧
  (∀ C K b r j tm hp es (d p sz : Nat) (x lo : A), go C K b (⟨some d, .slc sz x (some lo) none, none, p⟩ :: r) j tm hp es = goV C K b d r j tm hp es (iaIds (evT tm x)) (slcT sz hp (evT tm x) (some (evT tm lo)) none)) ∧
  (∀ C K b r j tm hp es (d p sz : Nat) (x hi : A), go C K b (⟨some d, .slc sz x none (some hi), none, p⟩ :: r) j tm hp es = goV C K b d r j tm hp es (iaIds (evT tm x)) (slcT sz hp (evT tm x) none (some (evT tm hi)))) ∧
  (∀ C K b r j tm hp es (d p sz : Nat) (x lo hi : A), go C K b (⟨some d, .slc sz x (some lo) (some hi), none, p⟩ :: r) j tm hp es = goV C K b d r j tm hp es (iaIds (evT tm x)) (slcT sz hp (evT tm x) (some (evT tm lo)) (some (evT tm hi)))) ∧
  (∀ C K b r j tm hp es (d p : Nat) (neg : Bool) (x y : A), go C K b (⟨some d, .eqb neg x y, none, p⟩ :: r) j tm hp es = goV C K b d r j tm hp es [] (eqbV neg (evT tm x) (evT tm y))) ∧
  (∀ C K b r j tm hp es (d p : Nat) (neg : Bool) (x : A), go C K b (⟨some d, .nils neg x, none, p⟩ :: r) j tm hp es = goV C K b d r j tm hp es [] (nilsV neg (evT tm x))) ∧
  (∀ C K b r j tm hp es (d p : Nat) (x y : A), go C K b (⟨some d, .ixs x y, none, p⟩ :: r) j tm hp es = goV C K b d r j tm hp es [] (ixsV (evT tm x) (evT tm y))) ∧
  (∀ C K b r j tm hp es (d p : Nat) (x lo : A), go C K b (⟨some d, .sls x (some lo) none, none, p⟩ :: r) j tm hp es = goV C K b d r j tm hp es [] (slsV (some (evT tm lo)) none (evT tm x))) ∧
  (∀ C K b r j tm hp es (d p : Nat) (x hi : A), go C K b (⟨some d, .sls x none (some hi), none, p⟩ :: r) j tm hp es = goV C K b d r j tm hp es [] (slsV none (some (evT tm hi)) (evT tm x))) ∧
  (∀ C K b r j tm hp es (d p : Nat) (x lo hi : A), go C K b (⟨some d, .sls x (some lo) (some hi), none, p⟩ :: r) j tm hp es = goV C K b d r j tm hp es [] (slsV (some (evT tm lo)) (some (evT tm hi)) (evT tm x))) ∧
  (∀ C K b r j tm hp es (d p : Nat) (x : A), go C K b (⟨some d, .bts x, none, p⟩ :: r) j tm hp es = goV C K b d r j tm hp es [] (btsO (bytesV (evT tm x)))) ∧
  (∀ C K b r j tm hp es (d p sz bytes : Nat) (z : List D) (ow : Bool) (x y : A), go C K b (⟨some d, .mks sz bytes z ow x y, none, p⟩ :: r) j tm hp es = goN C K b d r j tm hp es (mksO sz bytes (b + j) z ow (evT tm x) (evT tm y))) ∧
  (∀ C K b r j tm hp es (d : Nat) (v : V) (o : Obj), goN C K b d r j tm hp es (some (v, o)) = go C K b r (j + 1) ((d, v) :: tm) (hp.set (b + j) (some o)) (⟨[], false, b + j, 1⟩ :: es)) := by
 refine ⟨?_, ?_, ?_, ?_, ?_, ?_, ?_, ?_, ?_, ?_, ?_, ?_, ?_, ?_, ?_, ?_, ?_, ?_, ?_, ?_, ?_, ?_, ?_, ?_, ?_, ?_, ?_, ?_, ?_, ?_, ?_, ?_, ?_, ?_, ?_, ?_, ?_, ?_, ?_, ?_, ?_, ?_, ?_, ?_, ?_, ?_, ?_, ?_, ?_, ?_, ?_, ?_⟩
 ·intro C K b j tm hp es; exact rfl
 ·intro C K b r j tm hp es d p x; exact go_mv ..
 ·intro C K b r j tm hp es d p op x y; exact go_bin ..
 ·intro C K b r j tm hp es d p op x; exact go_un ..
 ·intro C K b r j tm hp es d p x y z; exact go_pick ..
 ·intro C K b r j tm hp es d p o x; exact go_fa ..
 ·intro C K b r j tm hp es d p ag o n x; exact go_fl ..
 ·intro C K b r j tm hp es d p x; exact go_nilc ..
 ·intro C K b r j tm hp es d p k x; exact go_conv ..
 ·intro C K b r j tm hp es d p i x; exact go_ext ..
 ·intro C K b r j tm hp es d p ag n x; exact go_ld ..
 ·intro C K b r j tm hp es dst p n x y; exact go_st ..
 ·intro C K b r j tm hp es d p sz x y; exact go_ia ..
 ·intro C K b r j tm hp es d p x; exact go_box ..
 ·intro C K b r j tm hp es d p z; exact go_zero ..
 ·intro C K b r j tm hp es d p x; exact go_len0 ..
 ·intro C K b r j tm hp es d p x; exact go_len1 ..
 ·intro C K b r j tm hp es d p z ps; exact go_build ..
 ·intro C K b r j tm hp es d p sz n z ps; exact go_bsl ..
 ·intro C K b r j tm hp es dst p key res as fz; rw [evL_eq]; exact go_call ..
 ·intro C K b r j tm hp es dst p res f as fz; rw [evL_eq]; exact go_callv ..
 ·intro C K b r j tm hp es dst op p t want; exact go_guard ..
 ·intro C K b r j tm hp es d ids v; exact rfl
 ·intro C K b r j tm hp es dst ids; exact rfl
 ·intro C K b r j tm hp es d c; exact rfl
 ·intro C K b r j tm hp es d sz xs; exact rfl
 ·intro C K b r j tm hp es dst op p; exact rfl
 ·intro C K b r j tm hp es dst op p; exact rfl
 ·intro C K b r j tm hp es dst n v is os ns; exact rfl
 ·intro C K b r j tm hp es dst res fz key as; exact rfl
 ·intro C K b r j tm hp es d sz xs x; exact rfl
 ·intro C K b r j tm hp es d sz xs id ver x; exact rfl
 ·intro C K b r j tm hp es d sz x; exact rfl
 ·intro C K b r j tm hp es d id ver off n x; exact rfl
 ·intro C K b r j tm hp es d x t; exact rfl
 ·intro C K b r j tm hp es d p sz bytes x y; exact go_app ..
 ·intro C K b r j tm hp es d sz bytes sz' ys; exact rfl
 ·intro C K b r j tm hp es d sz bytes id ver sz' xs ys; exact rfl
 ·intro C K b r j tm hp es d sz bytes id ver sz' v s xs ys; exact rfl
 ·intro C K b r j tm hp es d p sz x; exact go_slc00 ..
 ·intro C K b r j tm hp es d p sz x lo; exact go_slc10 ..
 ·intro C K b r j tm hp es d p sz x hi; exact go_slc01 ..
 ·intro C K b r j tm hp es d p sz x lo hi; exact go_slc11 ..
 ·intro C K b r j tm hp es d p neg x y; exact go_eqb ..
 ·intro C K b r j tm hp es d p neg x; exact go_nils ..
 ·intro C K b r j tm hp es d p x y; exact go_ixs ..
 ·intro C K b r j tm hp es d p x lo; exact go_sls10 ..
 ·intro C K b r j tm hp es d p x hi; exact go_sls01 ..
 ·intro C K b r j tm hp es d p x lo hi; exact go_sls11 ..
 ·intro C K b r j tm hp es d p x; exact go_bts ..
 ·intro C K b r j tm hp es d p sz bytes z ow x y; exact go_mks ..
 ·intro C K b r j tm hp es d v o; exact rfl
theorem evX :
  (∀ (tm : List (Nat × V)) (i : Nat), evT tm (.t i) = look tm i) ∧
  (∀ (tm : List (Nat × V)) (x : V), evT tm (.k x) = x) ∧
  (∀ (i : Nat) (x : V) (tm : List (Nat × V)) (k : Nat), look ((i, x) :: tm) k = if i = k then x else look tm k) ∧
  (∀ (tm : List (Nat × V)), evL tm [] = []) ∧
  (∀ (tm : List (Nat × V)) (a : A) (r : List A), evL tm (a :: r) = evT tm a :: evL tm r) ∧
  (∀ (tm : List (Nat × V)), evP tm [] = []) ∧
  (∀ (tm : List (Nat × V)) (o n : Nat) (a : A) (r : List (Nat × Nat × A)), evP tm ((o, n, a) :: r) = (o, n, evT tm a) :: evP tm r) ∧
  (∀ (tm : List (Nat × V)), evI tm [] = []) ∧
  (∀ (tm : List (Nat × V)) (o : Nat) (a : A) (r : List (Nat × A)), evI tm ((o, a) :: r) = (o, evT tm a) :: evI tm r) ∧
  (∀ (x : V) (tm : List (Nat × V)) (d : Nat), putT (some d) x tm = (d, x) :: tm) ∧
  (∀ (x : V) (tm : List (Nat × V)), putT none x tm = tm) ∧
  (∀ (x w : Bool), gd w (.d (.b x)) = some (x == w)) ∧
  (∀ (w : Bool), gd w (.tup []) = some false) ∧
  (∀ (w : Bool), gd w V.undef = some false) ∧
  (∀ (x : D), oD (some x) = some (.d x)) ∧
  (∀ (x y : Bool), eqbV false (.d (.b x)) (.d (.b y)) = some (.d (.b (decide (x = y))))) ∧
  (∀ (x y : Bool), eqbV true (.d (.b x)) (.d (.b y)) = some (.d (.b (decide (¬ x = y))))) ∧
  (∀ (n : Nat), nilsV false (.nil n) = some (.d (.b true))) ∧
  (∀ (n : Nat), nilsV true (.nil n) = some (.d (.b false))) ∧
  (∀ (n : Nat) (x : List D) (r : List (List D)), nilsV false (.d (.l n (x :: r))) = some (.d (.b false))) ∧
  (∀ (n : Nat) (x : List D) (r : List (List D)), nilsV true (.d (.l n (x :: r))) = some (.d (.b true))) ∧
  (∀ (x : List UInt8) (k : IntKind) (i : Int), ixsV (.d (.s x)) (.d (.i k i)) = if 0 ≤ i then ixO x[i.toNat]? else none) ∧
  (∀ (c : UInt8), ixO (some c) = some (.d (.i .u8 c.toNat))) ∧
  (∀ (lo hi : Option V) (x : List UInt8), slsV lo hi (.d (.s x)) = slsO x (bounds lo hi x.length)) ∧
  (∀ (x : List UInt8) (l h : Nat), slsO x (some (l, h)) = some (.d (.s ((x.take h).drop l)))) ∧
  (∀ (b : List UInt8), btsO (some b) = some (.d (.s b))) ∧
  (∀ (xs : List (List D)), bytesV (.d (.l 1 xs)) = bytesR xs) ∧
  (∀ (id ver : Nat) (xs : List (List D)), bytesV (.own id ver 1 xs) = bytesR xs) ∧
  (∀ (n : Nat), bytesV (.nil n) = some []) ∧
  (bytesR [] = some []) ∧
  (∀ (n : Int) (r : List (List D)), bytesR ([.i .u8 n] :: r) = btsC n (bytesR r)) ∧
  (∀ (n : Int) (b : List UInt8), btsC n (some b) = some (UInt8.ofNat n.toNat :: b)) ∧
  (∀ (sz bytes fresh : Nat) (z : List D) (k k' : IntKind) (l c : Int), mksO sz bytes fresh z true (.d (.i k l)) (.d (.i k' c)) = if 0 ≤ l ∧ l ≤ c ∧ roomy c.toNat bytes = true then some (.own fresh 0 sz (repD l.toNat z), .tok 0 sz) else none) ∧
  (∀ (n : Nat), bytesR (repD n [.i .u8 0]) = some (repB n)) ∧
  (∀ (k : IntKind) (x y : Int), binOp .add (.d (.i k x)) (.d (.i k y)) = some (.i k (k.wrap (x + y)))) ∧
  (∀ (k : IntKind) (x y : Int), binOp .sub (.d (.i k x)) (.d (.i k y)) = some (.i k (k.wrap (x - y)))) ∧
  (∀ (k : IntKind) (x y : Int), binOp .mul (.d (.i k x)) (.d (.i k y)) = some (.i k (k.wrap (x * y)))) ∧
  (∀ (k : IntKind) (x y : Int), binOp .quo (.d (.i k x)) (.d (.i k y)) = if y = 0 then none else some (.i k (k.wrap (x.tdiv y)))) ∧
  (∀ (k : IntKind) (x y : Int), binOp .rem (.d (.i k x)) (.d (.i k y)) = if y = 0 then none else some (.i k (x.tmod y))) ∧
  (∀ (k : IntKind) (x y : Int), binOp .eql (.d (.i k x)) (.d (.i k y)) = some (.b (decide (x = y)))) ∧
  (∀ (k : IntKind) (x y : Int), binOp .neq (.d (.i k x)) (.d (.i k y)) = some (.b (decide (¬ x = y)))) ∧
  (∀ (k : IntKind) (x y : Int), binOp .lss (.d (.i k x)) (.d (.i k y)) = some (.b (decide (x < y)))) ∧
  (∀ (k : IntKind) (x y : Int), binOp .leq (.d (.i k x)) (.d (.i k y)) = some (.b (decide (x ≤ y)))) ∧
  (∀ (k : IntKind) (x y : Int), binOp .gtr (.d (.i k x)) (.d (.i k y)) = some (.b (decide (y < x)))) ∧
  (∀ (k : IntKind) (x y : Int), binOp .geq (.d (.i k x)) (.d (.i k y)) = some (.b (decide (y ≤ x)))) ∧
  (∀ (x y : List UInt8), binOp .eql (.d (.s x)) (.d (.s y)) = some (.b (decide (x = y)))) ∧
  (∀ (x y : List UInt8), binOp .neq (.d (.s x)) (.d (.s y)) = some (.b (decide (¬ x = y)))) ∧
  (∀ (x y : List UInt8), binOp .lss (.d (.s x)) (.d (.s y)) = some (.b (bytesLess x y))) ∧
  (∀ (x y : List UInt8), binOp .leq (.d (.s x)) (.d (.s y)) = some (.b (bytesLess x y || x == y))) ∧
  (∀ (x y : List UInt8), binOp .gtr (.d (.s x)) (.d (.s y)) = some (.b (!(bytesLess x y || x == y)))) ∧
  (∀ (x y : List UInt8), binOp .geq (.d (.s x)) (.d (.s y)) = some (.b (!bytesLess x y))) ∧
  (∀ (x y : List UInt8), binOp .add (.d (.s x)) (.d (.s y)) = if x.length + y.length ≤ 4611686018427387904 then some (.s (x ++ y)) else none) ∧
  (∀ (x : Bool), unOp .not (.d (.b x)) = some (.b (!x))) ∧
  (∀ (k : IntKind) (x : Int), unOp .neg (.d (.i k x)) = some (.i k (k.wrap (-x)))) ∧
  (∀ (c : Bool) (x y : V), pickV (.d (.b c)) x y = some (if c then x else y)) ∧
  (∀ (o id q : Nat), faV o (.ptr id q) = some (.ptr id (q + o))) ∧
  (∀ (o id ver idx q : Nat), faV o (.pm id ver idx q) = some (.pm id ver idx (q + o))) ∧
  (∀ (o : Nat) (ds : List D) (q : Nat), faV o (.d (.q ds q)) = some (.d (.q ds (q + o)))) ∧
  (∀ (ag : Bool) (o n : Nat) (cs : List V), flV ag o n (.agg cs) = asO ag n (takeV cs o n)) ∧
  (∀ (id q : Nat), nilcV (.ptr id q) = some (.ptr id q)) ∧
  (∀ (id ver idx q : Nat), nilcV (.pm id ver idx q) = some (.pm id ver idx q)) ∧
  (∀ (ds : List D) (q : Nat), nilcV (.d (.q ds q)) = some (.d (.q ds q))) ∧
  (∀ (k : Nat) (a c : List D), nilcV (.d (.f k a c)) = some (.d (.f k a c))) ∧
  (∀ (k : Nat) (a c : List V), nilcV (.fn k a c) = some (.fn k a c)) ∧
  (∀ (k k' : IntKind) (n : Int), convV k (.d (.i k' n)) = some (.d (.i k (k.wrap n)))) ∧
  (∀ (i : Nat) (ws : List V), extV i (.tup ws) = ws[i]?) ∧
  (∀ (x : V), asO false 1 (some [x]) = some x) ∧
  (∀ (n : Nat) (cs : List V), asO true n (some cs) = if cs.length = n then some (.agg cs) else none) ∧
  (∀ (cs : List V), takeV cs 0 cs.length = some cs) ∧
  (∀ (x : V) (r : List V), takeV (x :: r) 0 1 = some [x]) ∧
  (∀ (x : V) (r : List V) (o n : Nat), takeV (x :: r) (o + 1) n = takeV r o n) ∧
  (∀ (x y : V) (r : List V), takeV (x :: y :: r) 0 2 = some [x, y]) ∧
  (∀ (x y z : V) (r : List V), takeV (x :: y :: z :: r) 0 3 = some [x, y, z]) ∧
  (∀ (x y z u : V) (r : List V), takeV (x :: y :: z :: u :: r) 0 4 = some [x, y, z, u]) ∧
  (ofDs [] = []) ∧
  (∀ (x : D) (r : List D), ofDs (x :: r) = .d x :: ofDs r) ∧
  (∀ (hp : List (Option Obj)) (ag : Bool) (n id off : Nat), ldT ag n hp (.ptr id off) = ldO ag n off (objT hp id)) ∧
  (∀ (hp : List (Option Obj)) (ag : Bool) (n : Nat) (ds : List D) (off : Nat), ldT ag n hp (.d (.q ds off)) = asO ag n (takeV (ofDs ds) off n)) ∧
  (∀ (hp : List (Option Obj)) (ag : Bool) (n id ver idx off : Nat), ldT ag n hp (.pm id ver idx off) = ldA ag n ver idx off (objT hp id)) ∧
  (∀ (ag : Bool) (n off : Nat) (cs : List V), ldO ag n off (some (.box cs)) = asO ag n (takeV cs off n)) ∧
  (∀ (ag : Bool) (n off : Nat) (cs : List D), ldO ag n off (some (.cst cs)) = asO ag n (takeV (ofDs cs) off n)) ∧
  (∀ (ag : Bool) (n ver idx off sz : Nat) (xs : List (List V)), ldA ag n ver idx off (some (.arr ver sz xs)) = ldR ag n off xs[idx]?) ∧
  (∀ (ag : Bool) (n off : Nat) (row : List V), ldR ag n off (some row) = asO ag n (takeV row off n)) ∧
  (∀ (o : Option Obj) (r : List (Option Obj)), objT (o :: r) 0 = o) ∧
  (∀ (o : Option Obj) (r : List (Option Obj)) (i : Nat), objT (o :: r) (i + 1) = objT r i) ∧
  (∀ (id off : Nat), memIds (.ptr id off) = [id]) ∧
  (∀ (id ver idx off : Nat), memIds (.pm id ver idx off) = [id]) ∧
  (∀ (x : D), memIds (.d x) = []) ∧
  (∀ (hp : List (Option Obj)) (n id off : Nat) (x : V), stT n hp (.ptr id off) x = stO n id off hp x.cel (objT hp id)) ∧
  (∀ (hp : List (Option Obj)) (n id ver idx off : Nat) (x : V), stT n hp (.pm id ver idx off) x = stA n id ver idx off hp x.cel (objT hp id)) ∧
  (∀ (hp : List (Option Obj)) (n id off : Nat) (c cs : List V), stO n id off hp (some c) (some (.box cs)) = if c.length = n then setO hp id (over cs off c) else none) ∧
  (∀ (hp : List (Option Obj)) (id : Nat) (cs : List V), setO hp id (some cs) = some (hp.set id (some (.box cs)))) ∧
  (∀ (cs c : List V) (off : Nat), over cs off c = if off + c.length ≤ cs.length then some (cs.take off ++ c ++ cs.drop (off + c.length)) else none) ∧
  (∀ (id ver off len : Nat), iaIds (.arr id ver off len) = [id]) ∧
  (∀ (x : D), iaIds (.d x) = []) ∧
  (∀ (id ver sz : Nat) (xs : List (List D)), iaIds (.own id ver sz xs) = []) ∧
  (∀ (hp : List (Option Obj)) (sz : Nat) (xs : List (List D)) (k : IntKind) (i : Int), iaT sz hp (.d (.l sz xs)) (.d (.i k i)) = if 0 ≤ i then rowQ xs[i.toNat]? else none) ∧
  (∀ (hp : List (Option Obj)) (id ver sz : Nat) (xs : List (List D)) (k : IntKind) (i : Int), iaT sz hp (.own id ver sz xs) (.d (.i k i)) = if 0 ≤ i then rowQ xs[i.toNat]? else none) ∧
  (∀ (hp : List (Option Obj)) (sz id ver off len : Nat) (k : IntKind) (i : Int), iaT sz hp (.arr id ver off len) (.d (.i k i)) = iaO sz id ver off len i (objT hp id)) ∧
  (∀ (sz id ver off len : Nat) (i : Int) (xs : List (List V)), iaO sz id ver off len i (some (.arr ver sz xs)) = if 0 ≤ i ∧ i < len then some (.pm id ver (off + i.toNat) 0) else none) ∧
  (∀ (r : List D), rowQ (some r) = some (.d (.q r 0))) ∧
  (∀ (cs : List V), V.cel (.agg cs) = some cs) ∧
  (∀ (x : D), V.cel (.d x) = some [.d x]) ∧
  (∀ (sz : Nat), V.cel (.nil sz) = some [.nil sz]) ∧
  (∀ (id ver sz : Nat) (xs : List (List D)), V.cel (.own id ver sz xs) = some [.own id ver sz xs]) ∧
  (∀ (id ver off len : Nat), V.cel (.arr id ver off len) = some [.arr id ver off len]) ∧
  (∀ (id off : Nat), V.cel (.ptr id off) = some [.ptr id off]) ∧
  (∀ (id : Nat), V.cel (.map id) = some [.map id]) ∧
  (∀ (k : Nat) (a c : List V), V.cel (.fn k a c) = some [.fn k a c]) ∧
  (∀ (cs : List V), V.cells (.agg cs) = cs) ∧
  (∀ (x : D), V.cells (.d x) = [.d x]) ∧
  (∀ (sz : Nat), V.cells (.nil sz) = [.nil sz]) ∧
  (∀ (id ver sz : Nat) (xs : List (List D)), V.cells (.own id ver sz xs) = [.own id ver sz xs]) ∧
  (∀ (cs : List V), buildO (some cs) = some (.agg cs)) ∧
  (∀ (cs : List V), fillV cs [] = some cs) ∧
  (∀ (cs : List V) (o n : Nat) (x : V) (r : List (Nat × Nat × V)), fillV cs ((o, n, x) :: r) = fill1 cs o n x.cel r) ∧
  (∀ (cs c : List V) (o n : Nat) (r : List (Nat × Nat × V)), fill1 cs o n (some c) r = if c.length = n then fill2 (over cs o c) r else none) ∧
  (∀ (cs : List V) (r : List (Nat × Nat × V)), fill2 (some cs) r = fillV cs r) ∧
  (∀ (sz : Nat) (xs : List (List D)), fillR sz xs [] = some xs) ∧
  (∀ (sz : Nat) (xs : List (List D)) (i : Nat) (x : V) (r : List (Nat × V)), fillR sz xs ((i, x) :: r) = fillR1 sz xs i r (V.toDs x.cells)) ∧
  (∀ (sz : Nat) (xs : List (List D)) (i : Nat) (ds : List D) (r : List (Nat × V)), fillR1 sz xs i r (some ds) = if ds.length = sz ∧ i < xs.length then fillR sz (xs.set i ds) r else none) ∧
  (∀ (x : D), V.toD (.d x) = some x) ∧
  (∀ (sz : Nat), V.toD (.nil sz) = some (.l sz [])) ∧
  (∀ (id ver sz : Nat) (xs : List (List D)), V.toD (.own id ver sz xs) = some (.l sz xs)) ∧
  (V.toDs [] = some []) ∧
  (∀ (x : V) (r : List V), V.toDs (x :: r) = consO (V.toD x) (V.toDs r)) ∧
  (∀ (x : D) (r : List D), consO (some x) (some r) = some (x :: r)) ∧
  (∀ (hp : List (Option Obj)) (sz : Nat) (xs : List (List D)) (lo hi : Option V), slcT sz hp (.d (.l sz xs)) lo hi = slcD sz xs (bounds lo hi xs.length)) ∧
  (∀ (hp : List (Option Obj)) (id ver off len sz : Nat) (lo hi : Option V), slcT sz hp (.arr id ver off len) lo hi = slcA sz id ver off (bounds lo hi len) (objT hp id)) ∧
  (∀ (id ver off sz v l h : Nat) (xs : List (List V)), slcA sz id ver off (some (l, h)) (some (.arr v sz xs)) = some (.arr id ver (off + l) (h - l))) ∧
  (∀ (hp : List (Option Obj)) (id ver sz : Nat) (xs : List (List D)) (lo hi : Option V), slcT sz hp (.own id ver sz xs) lo hi = slcO id ver sz xs (bounds lo hi xs.length)) ∧
  (∀ (sz l h : Nat) (xs : List (List D)), slcD sz xs (some (l, h)) = some (.d (.l sz ((xs.take h).drop l)))) ∧
  (∀ (id ver sz l h : Nat) (xs : List (List D)), slcO id ver sz xs (some (l, h)) = if h = xs.length then some (.own id ver sz (xs.drop l)) else some (.d (.l sz ((xs.take h).drop l)))) ∧
  (∀ (n : Nat), bounds none none n = some (0, n)) ∧
  (∀ (n : Nat) (k : IntKind) (x : Int), bounds none (some (.d (.i k x))) n = if 0 ≤ x ∧ x ≤ n then some (0, x.toNat) else none) ∧
  (∀ (n : Nat) (k : IntKind) (x : Int), bounds (some (.d (.i k x))) none n = if 0 ≤ x ∧ x ≤ n then some (x.toNat, n) else none) ∧
  (∀ (n : Nat) (k k' : IntKind) (x y : Int), bounds (some (.d (.i k x))) (some (.d (.i k' y))) n = if 0 ≤ x ∧ x ≤ y ∧ y ≤ n then some (x.toNat, y.toNat) else none) ∧
  (∀ (sz : Nat) (ys : List (List D)), moreOf sz (.d (.l sz ys)) = some ys) ∧
  (∀ (id ver sz : Nat) (ys : List (List D)), moreOf sz (.own id ver sz ys) = some ys) ∧
  (∀ (sz s : Nat), moreOf sz (.nil s) = some []) := by
 refine ⟨?_, ?_, ?_, ?_, ?_, ?_, ?_, ?_, ?_, ?_, ?_, ?_, ?_, ?_, ?_, ?_, ?_, ?_, ?_, ?_, ?_, ?_, ?_, ?_, ?_, ?_, ?_, ?_, ?_, ?_, ?_, ?_, ?_, ?_, ?_, ?_, ?_, ?_, ?_, ?_, ?_, ?_, ?_, ?_, ?_, ?_, ?_, ?_, ?_, ?_, ?_, ?_, ?_, ?_, ?_, ?_, ?_, ?_, ?_, ?_, ?_, ?_, ?_, ?_, ?_, ?_, ?_, ?_, ?_, ?_, ?_, ?_, ?_, ?_, ?_, ?_, ?_, ?_, ?_, ?_, ?_, ?_, ?_, ?_, ?_, ?_, ?_, ?_, ?_, ?_, ?_, ?_, ?_, ?_, ?_, ?_, ?_, ?_, ?_, ?_, ?_, ?_, ?_, ?_, ?_, ?_, ?_, ?_, ?_, ?_, ?_, ?_, ?_, ?_, ?_, ?_, ?_, ?_, ?_, ?_, ?_, ?_, ?_, ?_, ?_, ?_, ?_, ?_, ?_, ?_, ?_, ?_, ?_, ?_, ?_, ?_, ?_, ?_, ?_, ?_⟩
 ·intro tm i; exact rfl
 ·intro tm x; exact rfl
 ·intro i x tm k; exact rfl
 ·intro tm; exact rfl
 ·intro tm a r; exact rfl
 ·intro tm; exact rfl
 ·intro tm o n a r; exact rfl
 ·intro tm; exact rfl
 ·intro tm o a r; exact rfl
 ·intro x tm d; exact rfl
 ·intro x tm; exact rfl
 ·intro x w; exact rfl
 ·intro w; exact rfl
 ·intro w; exact rfl
 ·intro x; exact rfl
 ·intro x y; exact eqbV_eq ..
 ·intro x y; exact eqbV_ne ..
 ·intro n; exact rfl
 ·intro n; exact rfl
 ·intro n x r; exact rfl
 ·intro n x r; exact rfl
 ·intro x k i; exact rfl
 ·intro c; exact rfl
 ·intro lo hi x; exact rfl
 ·intro x l h; exact rfl
 ·intro b; exact rfl
 ·intro xs; exact rfl
 ·intro id ver xs; exact rfl
 ·intro n; exact rfl
 ·exact rfl
 ·intro n r; exact bytesR_cons ..
 ·intro n b; exact rfl
 ·intro sz bytes fresh z k k' l c; simp [mksO, repD]
 ·intro n; exact bytesR_rep n
 ·intro k x y; simp [binOp, isShift, binInt]
 ·intro k x y; simp [binOp, isShift, binInt]
 ·intro k x y; simp [binOp, isShift, binInt]
 ·intro k x y; simp [binOp, isShift, binInt]
 ·intro k x y; simp [binOp, isShift, binInt]
 ·intro k x y; simp only [binOp, isShift, binInt, if_true, Qm, if_false]; by_cases h : x = y <;> simp [h]
 ·intro k x y; simp only [binOp, isShift, binInt, if_true, Qm, if_false]; by_cases h : x = y <;> simp [h]
 ·intro k x y; simp [binOp, isShift, binInt]
 ·intro k x y; simp [binOp, isShift, binInt]
 ·intro k x y; simp [binOp, isShift, binInt]
 ·intro k x y; simp [binOp, isShift, binInt]
 ·intro x y; simp only [binOp, binStr]; by_cases h : x = y <;> simp [h]
 ·intro x y; simp only [binOp, binStr]; by_cases h : x = y <;> simp [h]
 ·intro x y; exact rfl
 ·intro x y; exact rfl
 ·intro x y; exact rfl
 ·intro x y; exact rfl
 ·intro x y; exact rfl
 ·intro x; exact rfl
 ·intro k x; exact rfl
 ·intro c x y; exact rfl
 ·intro o id q; exact rfl
 ·intro o id ver idx q; exact rfl
 ·intro o ds q; exact rfl
 ·intro ag o n cs; exact rfl
 ·intro id q; exact rfl
 ·intro id ver idx q; exact rfl
 ·intro ds q; exact rfl
 ·intro k a c; exact rfl
 ·intro k a c; exact rfl
 ·intro k k' n; exact rfl
 ·intro i ws; exact rfl
 ·intro x; exact rfl
 ·intro n cs; exact rfl
 ·intro cs; simp [takeV]
 ·intro x r; simp [takeV]
 ·intro x r o n; simp [takeV, Nat.add_right_comm]
 ·intro x y r; simp [takeV]
 ·intro x y z r; simp [takeV]
 ·intro x y z u r; simp [takeV]
 ·exact rfl
 ·intro x r; exact rfl
 ·intro hp ag n id off; exact rfl
 ·intro hp ag n ds off; exact rfl
 ·intro hp ag n id ver idx off; exact rfl
 ·intro ag n off cs; exact rfl
 ·intro ag n off cs; exact rfl
 ·intro ag n ver idx off sz xs; simp [ldA]
 ·intro ag n off row; exact rfl
 ·intro o r; simp [objT]
 ·intro o r i; simp [objT]
 ·intro id off; exact rfl
 ·intro id ver idx off; exact rfl
 ·intro x; exact rfl
 ·intro hp n id off x; exact rfl
 ·intro hp n id ver idx off x; exact rfl
 ·intro hp n id off c cs; simp only [stO]; by_cases hc : c.length = n <;> simp only [hc, if_true, if_false] <;> cases over cs off c <;> rfl
 ·intro hp id cs; exact rfl
 ·intro cs c off; exact rfl
 ·intro id ver off len; exact rfl
 ·intro x; exact rfl
 ·intro id ver sz xs; exact rfl
 ·intro hp sz xs k i; simp [iaT]
 ·intro hp id ver sz xs k i; simp [iaT]
 ·intro hp sz id ver off len k i; exact rfl
 ·intro sz id ver off len i xs; simp [iaO]
 ·intro r; exact rfl
 ·intro cs; exact rfl
 ·intro x; exact rfl
 ·intro sz; exact rfl
 ·intro id ver sz xs; exact rfl
 ·intro id ver off len; exact rfl
 ·intro id off; exact rfl
 ·intro id; exact rfl
 ·intro k a c; exact rfl
 ·intro cs; exact rfl
 ·intro x; exact rfl
 ·intro sz; exact rfl
 ·intro id ver sz xs; exact rfl
 ·intro cs; exact rfl
 ·intro cs; exact rfl
 ·intro cs o n x r; exact rfl
 ·intro cs c o n r; simp only [fill1]
 ·intro cs r; exact rfl
 ·intro sz xs; exact rfl
 ·intro sz xs i x r; simp only [fillR, fillR1]; cases V.toDs x.cells <;> rfl
 ·intro sz xs i ds r; exact rfl
 ·intro x; simp only [V.toD]
 ·intro sz; simp only [V.toD]
 ·intro id ver sz xs; simp only [V.toD]
 ·simp only [V.toDs]
 ·intro x r; simp only [V.toDs]; cases V.toD x <;> cases V.toDs r <;> rfl
 ·intro x r; exact rfl
 ·intro hp sz xs lo hi; exact slcT_d ..
 ·intro hp id ver off len sz lo hi; exact slcT_arr ..
 ·intro id ver off sz v l h xs; simp [slcA]
 ·intro hp id ver sz xs lo hi; exact slcT_own ..
 ·intro sz l h xs; exact rfl
 ·intro id ver sz l h xs; exact rfl
 ·intro n; simp [bounds]
 ·intro n k x; simp [bounds]
 ·intro n k x; simp [bounds]
 ·intro n k k' x y; simp [bounds]
 ·intro sz ys; simp [moreOf]
 ·intro id ver sz ys; simp [moreOf]
 ·intro sz s; exact rfl
theorem evC :
  (V.handAll [] = some []) ∧
  (∀ (x : V) (r : List V), V.handAll (x :: r) = consV (V.hand x) (V.handAll r)) ∧
  (∀ (x : V) (r : List V), consV (some x) (some r) = some (x :: r)) ∧
  (∀ (x : D), V.hand (.d x) = some (.d x)) ∧
  (∀ (sz : Nat), V.hand (.nil sz) = some (.d (.l sz []))) ∧
  (∀ (id ver sz : Nat) (xs : List (List D)), V.hand (.own id ver sz xs) = some (.d (.l sz xs))) ∧
  (∀ (cs : List V), V.hand (.agg cs) = aggO (V.handAll cs)) ∧
  (∀ (cs : List V), aggO (some cs) = some (.agg cs)) ∧
  (∀ (id ver off len : Nat), V.hand (.arr id ver off len) = some (.arr id ver off len)) ∧
  (∀ (id off : Nat), V.hand (.ptr id off) = some (.ptr id off)) ∧
  (∀ (id ver idx off : Nat), V.hand (.pm id ver idx off) = some (.pm id ver idx off)) ∧
  (∀ (id : Nat), V.hand (.map id) = some (.map id)) ∧
  (∀ (C : CallF) (obj : Nat → Option Obj) (key res fresh : Nat) (hs : List V), ent1 C obj key res fresh (some hs) = ent2 C obj key hs res fresh (reach obj far (V.refsAll hs) [])) ∧
  (∀ (C : CallF) (obj : Nat → Option Obj) (key res fresh : Nat) (hs : List V) (L : List Nat), ent2 C obj key hs res fresh (some L) = ent3 C key hs L res fresh (renObjs (placeOf L) noShift 0 (L.map obj))) ∧
  (∀ (C : CallF) (key res fresh : Nat) (hs : List V) (L : List Nat) (h : List (Option Obj)), ent3 C key hs L res fresh (some h) = ent4 L h res fresh (C key (V.renAll (placeOf L) noShift hs) h)) ∧
  (∀ (res fresh : Nat) (L : List Nat) (h h' : List (Option Obj)) (x : V), ent4 L h res fresh (some (x, h')) = ent5 L h res fresh x (renObjs (bk L fresh) (shf L h) 0 h')) ∧
  (∀ (res fresh : Nat) (L : List Nat) (h os : List (Option Obj)) (x : V), ent5 L h res fresh x (some os) = if L.length ≤ os.length ∧ os.length ≤ L.length + res then some (V.ren (bk L fresh) (shf L h) x, L, os.take L.length, os.drop L.length) else none) ∧
  (∀ (f : Nat) (obj : Nat → Option Obj) (done : List Nat), reach obj f [] done = some done) ∧
  (∀ (obj : Nat → Option Obj) (f i : Nat) (r done : List Nat), reach obj (f + 1) (i :: r) done = if done.contains i then reach obj f r done else reach obj f (r ++ Obj.refs (obj i)) (done ++ [i])) ∧
  (V.refsAll [] = []) ∧
  (∀ (x : V) (r : List V), V.refsAll (x :: r) = V.refs x ++ V.refsAll r) ∧
  (∀ (x : D), V.refs (.d x) = []) ∧
  (∀ (sz : Nat), V.refs (.nil sz) = []) ∧
  (∀ (id ver sz : Nat) (xs : List (List D)), V.refs (.own id ver sz xs) = [id]) ∧
  (∀ (id ver off len : Nat), V.refs (.arr id ver off len) = [id]) ∧
  (∀ (id off : Nat), V.refs (.ptr id off) = [id]) ∧
  (∀ (id ver idx off : Nat), V.refs (.pm id ver idx off) = [id]) ∧
  (∀ (id : Nat), V.refs (.map id) = [id]) ∧
  (∀ (cs : List V), V.refs (.agg cs) = V.refsAll cs) ∧
  (∀ (cs : List V), V.refs (.tup cs) = V.refsAll cs) ∧
  (∀ (k : Nat) (a c : List V), V.refs (.fn k a c) = V.refsAll a ++ V.refsAll c) ∧
  (∀ (cs : List V), Obj.refs (some (.box cs)) = V.refsAll cs) ∧
  (∀ (cs : List D), Obj.refs (some (.cst cs)) = []) ∧
  (∀ (v sz : Nat), Obj.refs (some (.tok v sz)) = []) ∧
  (∀ (v sz : Nat) (xs : List (List V)), Obj.refs (some (.arr v sz xs)) = refsRows xs) ∧
  (∀ (kvs : List (List D × V)), Obj.refs (some (.map kvs)) = refsKvs kvs) ∧
  (∀ (f sh : Nat → Nat), V.renAll f sh [] = []) ∧
  (∀ (f sh : Nat → Nat) (x : V) (r : List V), V.renAll f sh (x :: r) = V.ren f sh x :: V.renAll f sh r) ∧
  (∀ (f sh : Nat → Nat) (x : D), V.ren f sh (.d x) = .d x) ∧
  (∀ (f sh : Nat → Nat) (sz : Nat), V.ren f sh (.nil sz) = .nil sz) ∧
  (∀ (f sh : Nat → Nat) (cs : List V), V.ren f sh (.agg cs) = .agg (V.renAll f sh cs)) ∧
  (∀ (f sh : Nat → Nat) (cs : List V), V.ren f sh (.tup cs) = .tup (V.renAll f sh cs)) ∧
  (∀ (f sh : Nat → Nat) (id ver sz : Nat) (xs : List (List D)), V.ren f sh (.own id ver sz xs) = .own (f id) (ver + sh id) sz xs) ∧
  (∀ (f sh : Nat → Nat) (id ver off len : Nat), V.ren f sh (.arr id ver off len) = .arr (f id) ver off len) ∧
  (∀ (f sh : Nat → Nat) (id off : Nat), V.ren f sh (.ptr id off) = .ptr (f id) off) ∧
  (∀ (f sh : Nat → Nat) (id ver idx off : Nat), V.ren f sh (.pm id ver idx off) = .pm (f id) ver idx off) ∧
  (∀ (f sh : Nat → Nat) (id : Nat), V.ren f sh (.map id) = .map (f id)) ∧
  (∀ (f sh : Nat → Nat) (k : Nat) (a c : List V), V.ren f sh (.fn k a c) = .fn k (V.renAll f sh a) (V.renAll f sh c)) ∧
  (∀ (f sh : Nat → Nat) (i : Nat), renObjs f sh i [] = some []) ∧
  (∀ (f sh : Nat → Nat) (i : Nat) (o : Obj) (r : List (Option Obj)), renObjs f sh i (some o :: r) = consB (Obj.ren f sh (sh i) o) (renObjs f sh (i + 1) r)) ∧
  (∀ (o : Obj) (r : List (Option Obj)), consB o (some r) = some (some o :: r)) ∧
  (∀ (f sh : Nat → Nat) (s : Nat) (cs : List V), Obj.ren f sh s (.box cs) = .box (V.renAll f sh cs)) ∧
  (∀ (f sh : Nat → Nat) (s : Nat) (cs : List D), Obj.ren f sh s (.cst cs) = .cst cs) ∧
  (∀ (f sh : Nat → Nat) (s v sz : Nat), Obj.ren f sh s (.tok v sz) = .tok (v + s) sz) ∧
  (∀ (f sh : Nat → Nat) (s v sz : Nat) (xs : List (List V)), Obj.ren f sh s (.arr v sz xs) = .arr v sz (renRows f sh xs)) ∧
  (∀ (f sh : Nat → Nat) (s : Nat) (kvs : List (List D × V)), Obj.ren f sh s (.map kvs) = .map (renKvs f sh kvs)) ∧
  (∀ (i x : Nat) (r : List Nat), placeOf (x :: r) i = if x = i then 0 else placeOf r i + 1) ∧
  (∀ (i : Nat), noShift i = 0) ∧
  (∀ (L : List Nat) (f i : Nat), bk L f i = if i < L.length then L.getD i 0 else f + (i - L.length)) ∧
  (∀ (L : List Nat) (h : List (Option Obj)) (i : Nat), shf L h i = if i < L.length then verOf (h.getD i none) else 0) ∧
  (∀ (v sz : Nat), verOf (some (.tok v sz)) = v + 1) ∧
  (∀ (cs : List V), verOf (some (.box cs)) = 0) ∧
  (∀ (cs : List D), verOf (some (.cst cs)) = 0) ∧
  (∀ (v sz : Nat) (xs : List (List V)), verOf (some (.arr v sz xs)) = 0) ∧
  (∀ (kvs : List (List D × V)), verOf (some (.map kvs)) = 0) ∧
  (∀ (C : CallF) (key : Nat) (as : List V) (h : List (Option Obj)), frzCall (mdOf true) C key as h = setlO h.length (C key as h)) ∧
  (∀ (C : CallF), frzCall (mdOf false) C = C) ∧
  (∀ (m : Nat) (x : V) (h : List (Option Obj)), setlO m (some (x, h)) = setl1 m x h (ansIds m x)) ∧
  (∀ (m : Nat) (x : V) (h : List (Option Obj)), setl1 m x h [] = some (x, h)) ∧
  (∀ (m i : Nat) (is : List Nat) (x : V) (h : List (Option Obj)), setl1 m x h (i :: is) = settle m x h) ∧
  (∀ (m : Nat) (x : D), ansIds m (.d x) = []) ∧
  (∀ (m : Nat) (cs : List V), ansIds m (.agg cs) = arrIdsAll m cs) ∧
  (∀ (m : Nat) (cs : List V), ansIds m (.tup cs) = valIdsAll m cs) ∧
  (∀ (m : Nat), valIdsAll m [] = []) ∧
  (∀ (m : Nat) (x : V) (r : List V), valIdsAll m (x :: r) = valIds m x ++ valIdsAll m r) ∧
  (∀ (m : Nat) (x : D), valIds m (.d x) = []) ∧
  (∀ (m : Nat) (cs : List V), valIds m (.agg cs) = arrIdsAll m cs) ∧
  (∀ (m id off : Nat), valIds m (.ptr id off) = []) ∧
  (∀ (m id : Nat), valIds m (.map id) = []) ∧
  (∀ (m id ver off len : Nat), valIds m (.arr id ver off len) = if m ≤ id then [id] else []) ∧
  (∀ (m id off : Nat), ansIds m (.ptr id off) = []) ∧
  (∀ (m id : Nat), ansIds m (.map id) = []) ∧
  (∀ (m k : Nat) (a c : List V), ansIds m (.fn k a c) = []) ∧
  (∀ (m id ver off len : Nat), ansIds m (.arr id ver off len) = if m ≤ id then [id] else []) ∧
  (∀ (m : Nat), arrIdsAll m [] = []) ∧
  (∀ (m : Nat) (x : V) (r : List V), arrIdsAll m (x :: r) = V.arrIds m x ++ arrIdsAll m r) ∧
  (∀ (m : Nat) (x : D), V.arrIds m (.d x) = []) ∧
  (∀ (m id off : Nat), V.arrIds m (.ptr id off) = []) ∧
  (∀ (m id : Nat), V.arrIds m (.map id) = []) ∧
  (∀ (m id ver off len : Nat), V.arrIds m (.arr id ver off len) = if m ≤ id then [id] else []) ∧
  (∀ (hp : List (Option Obj)) (os : List (Option Obj)), setObjs hp [] os = hp) ∧
  (∀ (hp : List (Option Obj)) (is : List Nat), setObjs hp is [] = hp) ∧
  (∀ (hp : List (Option Obj)) (i : Nat) (is : List Nat) (o : Option Obj) (os : List (Option Obj)), setObjs hp (i :: is) (o :: os) = setObjs (hp.set i o) is os) ∧
  (∀ (k : Nat) (a c : List D) (as : List V), calleeV (.d (.f k a c)) as = some (k, ofDs a ++ as ++ ofDs c)) ∧
  (∀ (k : Nat) (c as : List V), calleeV (.fn k [] c) as = some (k, [] ++ as ++ c)) ∧
  (∀ (k id : Nat) (as : List V), calleeV (.fn k [.map id] []) as = some (k, .fn k [.map id] [] :: as)) := by
 refine ⟨?_, ?_, ?_, ?_, ?_, ?_, ?_, ?_, ?_, ?_, ?_, ?_, ?_, ?_, ?_, ?_, ?_, ?_, ?_, ?_, ?_, ?_, ?_, ?_, ?_, ?_, ?_, ?_, ?_, ?_, ?_, ?_, ?_, ?_, ?_, ?_, ?_, ?_, ?_, ?_, ?_, ?_, ?_, ?_, ?_, ?_, ?_, ?_, ?_, ?_, ?_, ?_, ?_, ?_, ?_, ?_, ?_, ?_, ?_, ?_, ?_, ?_, ?_, ?_, ?_, ?_, ?_, ?_, ?_, ?_, ?_, ?_, ?_, ?_, ?_, ?_, ?_, ?_, ?_, ?_, ?_, ?_, ?_, ?_, ?_, ?_, ?_, ?_, ?_, ?_, ?_, ?_, ?_, ?_, ?_, ?_⟩
 ·simp only [V.handAll]
 ·intro x r; simp only [V.handAll]; cases V.hand x <;> cases V.handAll r <;> rfl
 ·intro x r; exact rfl
 ·intro x; simp only [V.hand]
 ·intro sz; simp only [V.hand]
 ·intro id ver sz xs; simp only [V.hand]
 ·intro cs; simp only [V.hand]; cases V.handAll cs <;> rfl
 ·intro cs; exact rfl
 ·intro id ver off len; simp only [V.hand]
 ·intro id off; simp only [V.hand]
 ·intro id ver idx off; simp only [V.hand]
 ·intro id; simp only [V.hand]
 ·intro C obj key res fresh hs; exact rfl
 ·intro C obj key res fresh hs L; exact rfl
 ·intro C key res fresh hs L h; exact rfl
 ·intro res fresh L h h' x; exact rfl
 ·intro res fresh L h os x; exact rfl
 ·intro f obj done; simp only [reach]
 ·intro obj f i r done; simp only [reach]
 ·simp only [V.refsAll]
 ·intro x r; simp only [V.refsAll]
 ·intro x; simp only [V.refs]
 ·intro sz; simp only [V.refs]
 ·intro id ver sz xs; simp only [V.refs]
 ·intro id ver off len; simp only [V.refs]
 ·intro id off; simp only [V.refs]
 ·intro id ver idx off; simp only [V.refs]
 ·intro id; simp only [V.refs]
 ·intro cs; simp only [V.refs]
 ·intro cs; simp only [V.refs]
 ·intro k a c; simp only [V.refs]
 ·intro cs; exact rfl
 ·intro cs; exact rfl
 ·intro v sz; exact rfl
 ·intro v sz xs; exact rfl
 ·intro kvs; exact rfl
 ·intro f sh; simp only [V.renAll]
 ·intro f sh x r; simp only [V.renAll]
 ·intro f sh x; simp only [V.ren]
 ·intro f sh sz; simp only [V.ren]
 ·intro f sh cs; simp only [V.ren]
 ·intro f sh cs; simp only [V.ren]
 ·intro f sh id ver sz xs; simp only [V.ren]
 ·intro f sh id ver off len; simp only [V.ren]
 ·intro f sh id off; simp only [V.ren]
 ·intro f sh id ver idx off; simp only [V.ren]
 ·intro f sh id; simp only [V.ren]
 ·intro f sh k a c; simp only [V.ren]
 ·intro f sh i; exact rfl
 ·intro f sh i o r; simp only [renObjs]; cases renObjs f sh (i + 1) r <;> rfl
 ·intro o r; exact rfl
 ·intro f sh s cs; exact rfl
 ·intro f sh s cs; exact rfl
 ·intro f sh s v sz; exact rfl
 ·intro f sh s v sz xs; exact rfl
 ·intro f sh s kvs; exact rfl
 ·intro i x r; exact rfl
 ·intro i; exact rfl
 ·intro L f i; exact rfl
 ·intro L h i; exact rfl
 ·intro v sz; exact rfl
 ·intro cs; exact rfl
 ·intro cs; exact rfl
 ·intro v sz xs; exact rfl
 ·intro kvs; exact rfl
 ·intro C key as h; exact frz_true ..
 ·intro C; exact rfl
 ·intro m x h; exact settle_ids ..
 ·intro m x h; exact rfl
 ·intro m i is x h; exact rfl
 ·intro m x; exact rfl
 ·intro m cs; exact rfl
 ·intro m cs; exact rfl
 ·intro m; exact rfl
 ·intro m x r; exact rfl
 ·intro m x; exact rfl
 ·intro m cs; exact rfl
 ·intro m id off; exact rfl
 ·intro m id; exact rfl
 ·intro m id ver off len; exact rfl
 ·intro m id off; exact rfl
 ·intro m id; exact rfl
 ·intro m k a c; exact rfl
 ·intro m id ver off len; exact rfl
 ·intro m; exact rfl
 ·intro m x r; exact rfl
 ·intro m x; exact rfl
 ·intro m id off; exact rfl
 ·intro m id; exact rfl
 ·intro m id ver off len; exact rfl
 ·intro hp os; cases os <;> rfl
 ·intro hp is; cases is <;> rfl
 ·intro hp i is o os; exact rfl
 ·intro k a c as; exact rfl
 ·intro k c as; exact rfl
 ·intro k id as; exact rfl
theorem evR :
  (∀ tm hp (m : Nat) (rs : List Ret), result m ⟨tm, hp⟩ rs = res1 m hp (retAll ⟨tm, hp⟩ rs)) ∧
  (∀ tm hp, retAll ⟨tm, hp⟩ [] = some []) ∧
  (∀ tm hp (r : Ret) (rs : List Ret), retAll ⟨tm, hp⟩ (r :: rs) = consV (retV ⟨tm, hp⟩ r) (retAll ⟨tm, hp⟩ rs)) ∧
  (∀ tm hp (t : Nat), retV ⟨tm, hp⟩ (.slot t) = V.hand (look tm t)) ∧
  (∀ tm hp (t n : Nat) (ag : Bool), retV ⟨tm, hp⟩ (.cell t ag n) = retC ag n hp (look tm t)) ∧
  (∀ (hp : List (Option Obj)) (ag : Bool) (n id off : Nat), retC ag n hp (.ptr id off) = retB ag n off (objT hp id)) ∧
  (∀ (ag : Bool) (n off : Nat) (cs : List V), retB ag n off (some (.box cs)) = handO (asO ag n (takeV cs off n))) ∧
  (∀ (x : V), handO (some x) = V.hand x) ∧
  (∀ (m : Nat) (hp : List (Option Obj)) (vs : List V), res1 m hp (some vs) = res2 vs hp (reach (objT hp) far (rng 0 m ++ V.refsAll vs) [])) ∧
  (∀ (hp : List (Option Obj)) (vs : List V) (L : List Nat), res2 vs hp (some L) = res3 vs L (renObjs (placeOf L) noShift 0 (L.map (objT hp)))) ∧
  (∀ (vs : List V) (L : List Nat) (h : List (Option Obj)), res3 vs L (some h) = some (V.ren (placeOf L) noShift (answer vs), h)) ∧
  (∀ (v : V), answer [v] = v) ∧
  (∀ (v u : V) (r : List V), answer (v :: u :: r) = .tup (v :: u :: r)) ∧
  (answer [] = .tup []) ∧
  (∀ (i : Nat), rng i 0 = []) ∧
  (∀ (i n : Nat), rng i (n + 1) = i :: rng (i + 1) n) := by
 refine ⟨?_, ?_, ?_, ?_, ?_, ?_, ?_, ?_, ?_, ?_, ?_, ?_, ?_, ?_, ?_, ?_⟩
 ·intro tm hp m rs; exact result_res ..
 ·intro tm hp; exact rfl
 ·intro tm hp r rs; simp only [retAll]; cases retV ⟨tm, hp⟩ r <;> cases retAll ⟨tm, hp⟩ rs <;> rfl
 ·intro tm hp t; exact rfl
 ·intro tm hp t n ag; simp only [retV]; show (match look tm t with | .ptr id off => _ | _ => _) = _; unfold retC; cases look tm t <;> rfl
 ·intro hp ag n id off; simp only [retC, retB]; show (match (objT hp id) with | some (.box cs) => _ | _ => _) = _; cases objT hp id with | none => rfl | some o => (cases o with | box cs => (simp only; cases takeV cs off n with | none => rfl | some c => rfl) | _ => rfl)
 ·intro ag n off cs; exact rfl
 ·intro x; exact rfl
 ·intro m hp vs; exact rfl
 ·intro hp vs L; exact rfl
 ·intro vs L h; exact rfl
 ·intro v; exact rfl
 ·intro v u r; exact rfl
 ·exact rfl
 ·intro i; exact rfl
 ·intro i n; exact rfl
theorem evH :
  (∀ (k o : List Nat) (ob : List (Nat × Nat)) (da : List Nat) (db : List (Nat × Nat)) (tr : Bool) (s : St), enter ⟨k, o, ob, da, db, tr⟩ s = keepS k (datBs db (datsS da (boxesS ob (slotsS o s))))) ∧
  (∀ (s : St), datsS [] s = s) ∧
  (∀ (s : St) (t : Nat) (r : List Nat), datsS (t :: r) s = datsS r (datSlot s t)) ∧
  (∀ (s : St), datBs [] s = s) ∧
  (∀ (s : St) (t : Nat × Nat) (r : List (Nat × Nat)), datBs (t :: r) s = datBs r (datBox s t)) ∧
  (∀ tm hp (t : Nat), datSlot ⟨tm, hp⟩ t = ⟨(t, datV (look tm t)) :: tm, hp⟩) ∧
  (∀ tm hp (t c : Nat), datBox ⟨tm, hp⟩ (t, c) = datB1 tm hp c (look tm t)) ∧
  (∀ tm hp (c id off : Nat), datB1 tm hp c (.ptr id off) = datB2 tm hp id (off + c) (objT hp id)) ∧
  (∀ tm hp (id k : Nat) (cs : List V), datB2 tm hp id k (some (.box cs)) = datB3 tm hp id k cs cs[k]?) ∧
  (∀ tm hp (id k : Nat) (cs : List V) (v : V), datB3 tm hp id k cs (some v) = ⟨tm, hp.set id (some (.box (cs.set k (datC v))))⟩) ∧
  (∀ tm hp (t c : Nat), ownBox ⟨tm, hp⟩ (t, c) = ownB0 tm hp t c (look tm t)) ∧
  (∀ tm hp (t c id off : Nat), ownB0 tm hp t c (.ptr id off) = ownB2 tm hp id (off + c) (objT hp id)) ∧
  (∀ tm hp (t c sz : Nat), ownB0 tm hp t c (.nil sz) = ⟨(t, .arr hp.length 0 0 0) :: tm, hp ++ [some (.arr 0 sz [])]⟩) ∧
  (∀ tm hp (t c : Nat) (x : D), ownB0 tm hp t c (.d x) = ⟨tm, hp⟩) ∧
  (∀ tm hp (t c id ver off len : Nat), ownB0 tm hp t c (.arr id ver off len) = ⟨tm, hp⟩) ∧
  (∀ tm hp (id k : Nat) (cs : List V), ownB2 tm hp id k (some (.box cs)) = ownB3 tm hp id k cs cs[k]?) ∧
  (∀ tm hp (id k sz : Nat) (cs : List V), ownB3 tm hp id k cs (some (.nil sz)) = ⟨tm, (hp.set id (some (.box (cs.set k (.own hp.length 0 sz []))))) ++ [some (.tok 0 sz)]⟩) ∧
  (∀ tm hp (id k i v sz : Nat) (xs : List (List D)) (cs : List V), ownB3 tm hp id k cs (some (.own i v sz xs)) = ⟨tm, hp⟩) ∧
  (∀ tm hp (id k : Nat) (x : D) (cs : List V), ownB3 tm hp id k cs (some (.d x)) = ⟨tm, hp⟩) ∧
  (∀ (sz : Nat), datC (.nil sz) = .d (.l sz [])) ∧
  (∀ (id ver sz : Nat) (xs : List (List D)), datC (.own id ver sz xs) = .d (.l sz xs)) ∧
  (∀ (x : D), datC (.d x) = .d x) ∧
  (∀ (sz : Nat), datV (.nil sz) = .d (.l sz [])) ∧
  (∀ (id ver sz : Nat) (xs : List (List D)), datV (.own id ver sz xs) = .d (.l sz xs)) ∧
  (∀ (x : D), datV (.d x) = .d x) ∧
  (∀ (cs : List V), datV (.agg cs) = .agg (cs.map datC)) ∧
  (∀ (id ver off len : Nat), datV (.arr id ver off len) = .arr id ver off len) ∧
  (∀ (id ver off len : Nat), datC (.arr id ver off len) = .arr id ver off len) ∧
  (∀ (s : St), slotsS [] s = s) ∧
  (∀ (s : St) (t : Nat) (r : List Nat), slotsS (t :: r) s = slotsS r (ownSlot s t)) ∧
  (∀ (s : St), boxesS [] s = s) ∧
  (∀ (s : St) (t : Nat × Nat) (r : List (Nat × Nat)), boxesS (t :: r) s = boxesS r (ownBox s t)) ∧
  (∀ tm hp (t : Nat), ownSlot ⟨tm, hp⟩ t = ownS tm hp t (look tm t)) ∧
  (∀ tm hp (t sz : Nat), ownS tm hp t (.nil sz) = ⟨(t, .own hp.length 0 sz []) :: tm, hp ++ [some (.tok 0 sz)]⟩) ∧
  (∀ tm hp (t : Nat) (x : D), ownS tm hp t (.d x) = ⟨tm, hp⟩) ∧
  (∀ tm hp (t id ver sz : Nat) (xs : List (List D)), ownS tm hp t (.own id ver sz xs) = ⟨tm, hp⟩) ∧
  (∀ tm hp (t id ver off len : Nat), ownS tm hp t (.arr id ver off len) = ⟨tm, hp⟩) ∧
  (∀ tm hp (k : List Nat), keepS k ⟨tm, hp⟩ = ⟨keepT tm k, hp⟩) ∧
  (∀ (tm : List (Nat × V)), keepT tm [] = []) ∧
  (∀ (tm : List (Nat × V)) (t : Nat) (r : List Nat), keepT tm (t :: r) = (t, look tm t) :: keepT tm r) ∧
  (∀ (k o : List Nat) (ob : List (Nat × Nat)) (da : List Nat) (db : List (Nat × Nat)) (n : Nat) (s : St), back ⟨k, o, ob, da, db, true⟩ n s = backS k n (datBs db (datsS da s))) ∧
  (∀ (k o : List Nat) (ob : List (Nat × Nat)) (da : List Nat) (db : List (Nat × Nat)) (n : Nat) (s : St), back ⟨k, o, ob, da, db, false⟩ n s = backS' k (datBs db (datsS da s))) ∧
  (∀ tm hp (k : List Nat) (n : Nat), backS k n ⟨tm, hp⟩ = backT n (keepT tm k) (hp.take n)) ∧
  (∀ tm hp (k : List Nat), backS' k ⟨tm, hp⟩ = some ⟨keepT tm k, hp⟩) ∧
  (∀ (n : Nat) (tm : List (Nat × V)) (h : List (Option Obj)), backT n tm h = if underTmps n tm && backT.underH n h then some ⟨normTmps h tm, backT.normH h h⟩ else none) ∧
  (∀ (n : Nat), backT.underH n [] = true) ∧
  (∀ (n : Nat) (o : Option Obj) (r : List (Option Obj)), backT.underH n (o :: r) = (Obj.under n o && backT.underH n r)) ∧
  (∀ (h : List (Option Obj)), backT.normH h [] = []) ∧
  (∀ (h : List (Option Obj)) (o : Option Obj) (r : List (Option Obj)), backT.normH h (o :: r) = normObj h o :: backT.normH h r) ∧
  (∀ (n : Nat), underTmps n [] = true) ∧
  (∀ (n i : Nat) (x : V) (r : List (Nat × V)), underTmps n ((i, x) :: r) = (V.under n x && underTmps n r)) ∧
  (∀ (n : Nat) (x : D), V.under n (.d x) = true) ∧
  (∀ (n : Nat) (sz : Nat), V.under n (.nil sz) = true) ∧
  (∀ (n : Nat), V.under n (.bad) = true) ∧
  (∀ (n : Nat) (id ver sz : Nat) (xs : List (List D)), V.under n (.own id ver sz xs) = decide (id < n)) ∧
  (∀ (n : Nat) (id ver off len : Nat), V.under n (.arr id ver off len) = decide (id < n)) ∧
  (∀ (n : Nat) (id off : Nat), V.under n (.ptr id off) = decide (id < n)) ∧
  (∀ (n : Nat) (id ver idx off : Nat), V.under n (.pm id ver idx off) = decide (id < n)) ∧
  (∀ (n : Nat) (id : Nat), V.under n (.map id) = decide (id < n)) ∧
  (∀ (n : Nat) (k : Nat) (a c : List V), V.under n (.fn k a c) = (V.underAll n a && V.underAll n c)) ∧
  (∀ (n : Nat) (cs : List V), V.under n (.agg cs) = V.underAll n cs) ∧
  (∀ (n : Nat) (cs : List V), V.under n (.tup cs) = V.underAll n cs) ∧
  (∀ (n : Nat), V.underAll n [] = true) ∧
  (∀ (n : Nat) (x : V) (r : List V), V.underAll n (x :: r) = (V.under n x && V.underAll n r)) ∧
  (∀ (n : Nat) (cs : List V), Obj.under n (some (.box cs)) = V.underAll n cs) ∧
  (∀ (n v sz : Nat), Obj.under n (some (.tok v sz)) = true) ∧
  (∀ (n : Nat) (ds : List D), Obj.under n (some (.cst ds)) = true) ∧
  (∀ (n v sz : Nat) (xs : List (List V)), Obj.under n (some (.arr v sz xs)) = underRows n xs) ∧
  (∀ (n : Nat) (kvs : List (List D × V)), Obj.under n (some (.map kvs)) = underKvs n kvs) ∧
  (∀ (n : Nat), Obj.under n none = true) ∧
  (∀ (h : List (Option Obj)), normTmps h [] = []) ∧
  (∀ (h : List (Option Obj)) (i : Nat) (x : V) (r : List (Nat × V)), normTmps h ((i, x) :: r) = (i, normV h x) :: normTmps h r) ∧
  (∀ (h : List (Option Obj)) (cs : List V), normV h (.agg cs) = .agg (cs.map (normC h))) ∧
  (∀ (h : List (Option Obj)), normV h (.tup []) = .tup []) ∧
  (∀ (h : List (Option Obj)) (x : D), normV h (.d x) = .d x) ∧
  (∀ (h : List (Option Obj)) (x : D), normC h (.d x) = .d x) ∧
  (∀ (h : List (Option Obj)) (sz : Nat), normV h (.nil sz) = .nil sz) ∧
  (∀ (h : List (Option Obj)) (sz : Nat), normC h (.nil sz) = .nil sz) ∧
  (∀ (h : List (Option Obj)) (id off : Nat), normV h (.ptr id off) = .ptr id off) ∧
  (∀ (h : List (Option Obj)) (id off : Nat), normC h (.ptr id off) = .ptr id off) ∧
  (∀ (h : List (Option Obj)) (id : Nat), normV h (.map id) = .map id) ∧
  (∀ (h : List (Option Obj)) (id : Nat), normC h (.map id) = .map id) ∧
  (∀ (h : List (Option Obj)), normV h (.bad) = .bad) ∧
  (∀ (h : List (Option Obj)), normC h (.bad) = .bad) ∧
  (∀ (h : List (Option Obj)) (id ver sz : Nat) (xs : List (List D)), normV h (.own id ver sz xs) = normO id ver sz xs (objT h id)) ∧
  (∀ (h : List (Option Obj)) (id ver sz : Nat) (xs : List (List D)), normC h (.own id ver sz xs) = normO id ver sz xs (objT h id)) ∧
  (∀ (h : List (Option Obj)) (id ver off len : Nat), normV h (.arr id ver off len) = normA id ver off len (objT h id)) ∧
  (∀ (h : List (Option Obj)) (id ver off len : Nat), normC h (.arr id ver off len) = normA id ver off len (objT h id)) ∧
  (∀ (h : List (Option Obj)) (k : Nat) (a c : List V), normV h (.fn k a c) = if V.fine (.fn k a c) then .fn k a c else .bad) ∧
  (∀ (id ver sz v s : Nat) (xs : List (List D)), normO id ver sz xs (some (.tok v s)) = if ver = v then .own id 0 sz xs else .d (.l sz xs)) ∧
  (∀ (id ver off len v s : Nat) (xs : List (List V)), normA id ver off len (some (.arr v s xs)) = if ver = v then .arr id ver off len else .bad) ∧
  (∀ (h : List (Option Obj)) (cs : List V), normObj h (some (.box cs)) = some (.box (cs.map (normC h)))) ∧
  (∀ (h : List (Option Obj)) (v sz : Nat), normObj h (some (.tok v sz)) = some (.tok 0 sz)) ∧
  (∀ (h : List (Option Obj)) (ds : List D), normObj h (some (.cst ds)) = some (.cst ds)) ∧
  (∀ (h : List (Option Obj)) (v sz : Nat) (xs : List (List V)), normObj h (some (.arr v sz xs)) = some (.arr v sz (xs.map fun r => r.map (normC h)))) ∧
  (∀ (h : List (Option Obj)) (kvs : List (List D × V)), normObj h (some (.map kvs)) = some (.map (kvs.map fun p => (p.1, normV h p.2)))) ∧
  (∀ (h : List (Option Obj)), normObj h none = none) := by
 refine ⟨?_, ?_, ?_, ?_, ?_, ?_, ?_, ?_, ?_, ?_, ?_, ?_, ?_, ?_, ?_, ?_, ?_, ?_, ?_, ?_, ?_, ?_, ?_, ?_, ?_, ?_, ?_, ?_, ?_, ?_, ?_, ?_, ?_, ?_, ?_, ?_, ?_, ?_, ?_, ?_, ?_, ?_, ?_, ?_, ?_, ?_, ?_, ?_, ?_, ?_, ?_, ?_, ?_, ?_, ?_, ?_, ?_, ?_, ?_, ?_, ?_, ?_, ?_, ?_, ?_, ?_, ?_, ?_, ?_, ?_, ?_, ?_, ?_, ?_, ?_, ?_, ?_, ?_, ?_, ?_, ?_, ?_, ?_, ?_, ?_, ?_, ?_, ?_, ?_, ?_, ?_, ?_, ?_, ?_, ?_, ?_, ?_⟩
 ·intro k o ob da db tr s; exact enter_eq ..
 ·intro s; exact rfl
 ·intro s t r; exact rfl
 ·intro s; exact rfl
 ·intro s t r; exact rfl
 ·intro tm hp t; exact rfl
 ·intro tm hp t c; exact datBox_eq ..
 ·intro tm hp c id off; exact rfl
 ·intro tm hp id k cs; exact rfl
 ·intro tm hp id k cs v; exact rfl
 ·intro tm hp t c; exact ownBox_eq ..
 ·intro tm hp t c id off; exact rfl
 ·intro tm hp t c sz; exact rfl
 ·intro tm hp t c x; exact rfl
 ·intro tm hp t c id ver off len; exact rfl
 ·intro tm hp id k cs; exact rfl
 ·intro tm hp id k sz cs; exact rfl
 ·intro tm hp id k i v sz xs cs; exact rfl
 ·intro tm hp id k x cs; exact rfl
 ·intro sz; exact rfl
 ·intro id ver sz xs; exact rfl
 ·intro x; exact rfl
 ·intro sz; exact rfl
 ·intro id ver sz xs; exact rfl
 ·intro x; exact rfl
 ·intro cs; exact rfl
 ·intro id ver off len; exact rfl
 ·intro id ver off len; exact rfl
 ·intro s; exact rfl
 ·intro s t r; exact rfl
 ·intro s; exact rfl
 ·intro s t r; exact rfl
 ·intro tm hp t; exact ownSlot_ownS ..
 ·intro tm hp t sz; exact rfl
 ·intro tm hp t x; exact rfl
 ·intro tm hp t id ver sz xs; exact rfl
 ·intro tm hp t id ver off len; exact rfl
 ·intro tm hp k; exact rfl
 ·intro tm; exact rfl
 ·intro tm t r; exact rfl
 ·intro k o ob da db n s; exact back_eq ..
 ·intro k o ob da db n s; exact back_eq' ..
 ·intro tm hp k n; exact rfl
 ·intro tm hp k; exact rfl
 ·intro n tm h; exact rfl
 ·intro n; exact rfl
 ·intro n o r; exact rfl
 ·intro h; exact rfl
 ·intro h o r; exact rfl
 ·intro n; exact rfl
 ·intro n i x r; exact rfl
 ·intro n x; simp only [V.under]
 ·intro n sz; simp only [V.under]
 ·intro n; simp only [V.under]
 ·intro n id ver sz xs; simp only [V.under]
 ·intro n id ver off len; simp only [V.under]
 ·intro n id off; simp only [V.under]
 ·intro n id ver idx off; simp only [V.under]
 ·intro n id; simp only [V.under]
 ·intro n k a c; simp only [V.under]
 ·intro n cs; simp only [V.under]
 ·intro n cs; simp only [V.under]
 ·intro n; simp only [V.underAll]
 ·intro n x r; simp only [V.underAll]
 ·intro n cs; exact rfl
 ·intro n v sz; exact rfl
 ·intro n ds; exact rfl
 ·intro n v sz xs; exact rfl
 ·intro n kvs; exact rfl
 ·intro n; exact rfl
 ·intro h; exact rfl
 ·intro h i x r; exact rfl
 ·intro h cs; exact rfl
 ·intro h; exact rfl
 ·intro h x; exact rfl
 ·intro h x; exact rfl
 ·intro h sz; exact rfl
 ·intro h sz; exact rfl
 ·intro h id off; exact rfl
 ·intro h id off; exact rfl
 ·intro h id; exact rfl
 ·intro h id; exact rfl
 ·intro h; exact rfl
 ·intro h; exact rfl
 ·intro h id ver sz xs; exact normC_own ..
 ·intro h id ver sz xs; exact normC_own ..
 ·intro h id ver off len; exact normC_arr ..
 ·intro h id ver off len; exact normC_arr ..
 ·intro h k a c; exact rfl
 ·intro id ver sz v s xs; exact rfl
 ·intro id ver off len v s xs; exact rfl
 ·intro h cs; exact rfl
 ·intro h v sz; exact rfl
 ·intro h ds; exact rfl
 ·intro h v sz xs; exact rfl
 ·intro h kvs; exact rfl
 ·intro h; exact rfl
theorem evN :
  (∀ (n : Nat), n + 0 = n) ∧
  (∀ (n : Nat), 0 + n = n) ∧
  (∀ (α : Type) (r : List α), r ++ [] = r) ∧
  (∀ (α : Type) (r : List α), [] ++ r = r) ∧
  (∀ (α : Type) (x : α) (r t : List α), (x :: r) ++ t = x :: (r ++ t)) ∧
  (∀ (α : Type), ([] : List α).length = 0) ∧
  (∀ (α : Type) (x : α) (r : List α), (x :: r).length = r.length + 1) ∧
  (∀ (α : Type) (x y : α) (r : List α), (x :: r).set 0 y = y :: r) ∧
  (∀ (α : Type) (x y : α) (r : List α) (i : Nat), (x :: r).set (i + 1) y = x :: r.set i y) ∧
  (∀ (α : Type) (r : List α), r.take 0 = []) ∧
  (∀ (α : Type) (x : α) (r : List α) (i : Nat), (x :: r).take (i + 1) = x :: r.take i) ∧
  (∀ (α : Type) (i : Nat), ([] : List α).take i = []) ∧
  (∀ (α : Type) (r : List α), r.drop 0 = r) ∧
  (∀ (α : Type) (x : α) (r : List α) (i : Nat), (x :: r).drop (i + 1) = r.drop i) ∧
  (∀ (α : Type) (i : Nat), ([] : List α).drop i = []) ∧
  (∀ (α : Type) (x : α) (r : List α), (x :: r)[0]? = some x) ∧
  (∀ (α : Type) (x : α) (r : List α) (i : Nat), (x :: r)[i + 1]? = r[i]?) ∧
  (∀ (α β : Type) (f : α → β), ([] : List α).map f = []) ∧
  (∀ (α β : Type) (f : α → β) (x : α) (r : List α), (x :: r).map f = f x :: r.map f) ∧
  (∀ (α : Type) (i : Nat), ([] : List α).zipIdx i = []) ∧
  (∀ (α : Type) (x : α) (r : List α) (i : Nat), (x :: r).zipIdx i = (x, i) :: r.zipIdx (i + 1)) ∧
  (∀ (args : List V) (h : List (Option Obj)), entry args h = ⟨args.zipIdx.map fun p => (p.2, p.1), h⟩) ∧
  (∀ (α : Type) (x : α), List.replicate 0 x = []) ∧
  (∀ (α : Type) (x : α) (k : Nat), List.replicate (k + 1) x = x :: List.replicate k x) ∧
  (∀ (i : Nat), ([] : List Nat).contains i = false) ∧
  (∀ (x i : Nat) (r : List Nat), (x :: r).contains i = (i == x || r.contains i)) ∧
  (∀ (x : Nat), (x == x) = true) ∧
  (∀ (x : Bool), (x == true) = x) ∧
  (∀ (x : Bool), (x == false) = !x) ∧
  (∀ (x : Bool), (x || true) = true) ∧
  (∀ (x : Bool), (true || x) = true) ∧
  (∀ (x : Bool), (x || false) = x) ∧
  (∀ (x : Bool), (false || x) = x) ∧
  (∀ (x : Bool), (x && true) = x) ∧
  (∀ (x : Bool), (true && x) = x) ∧
  (∀ (x : Bool), (x && false) = false) ∧
  (∀ (x : Bool), (false && x) = false) ∧
  ((!true) = false) ∧
  ((!false) = true) ∧
  (∀ (p : Prop), (p ∧ True) = p) ∧
  (∀ (p : Prop), (True ∧ p) = p) ∧
  (∀ (α : Type) (x : α), (x = x) = True) ∧
  ((false = true) = False) ∧
  ((true = false) = False) ∧
  (∀ (α : Type) (x y : α), (if True then x else y) = x) ∧
  (∀ (α : Type) (x y : α), (if False then x else y) = y) ∧
  (decide True = true) ∧
  (decide False = false) := by
 refine ⟨?_, ?_, ?_, ?_, ?_, ?_, ?_, ?_, ?_, ?_, ?_, ?_, ?_, ?_, ?_, ?_, ?_, ?_, ?_, ?_, ?_, ?_, ?_, ?_, ?_, ?_, ?_, ?_, ?_, ?_, ?_, ?_, ?_, ?_, ?_, ?_, ?_, ?_, ?_, ?_, ?_, ?_, ?_, ?_, ?_, ?_, ?_, ?_⟩
 ·intro n; simp
 ·intro n; simp
 ·intro α r; simp
 ·intro α r; simp
 ·intro α x r t; simp
 ·intro α; simp
 ·intro α x r; simp
 ·intro α x y r; simp
 ·intro α x y r i; simp
 ·intro α r; simp
 ·intro α x r i; simp
 ·intro α i; simp
 ·intro α r; simp
 ·intro α x r i; simp
 ·intro α i; simp
 ·intro α x r; simp
 ·intro α x r i; simp
 ·intro α β f; simp
 ·intro α β f x r; simp
 ·intro α i; simp
 ·intro α x r i; simp
 ·intro args h; exact rfl
 ·intro α x; simp
 ·intro α x k; exact rfl
 ·intro i; simp
 ·intro x i r; exact rfl
 ·intro x; simp
 ·intro x; simp
 ·intro x; simp
 ·intro x; simp
 ·intro x; simp
 ·intro x; simp
 ·intro x; simp
 ·intro x; simp
 ·intro x; simp
 ·intro x; simp
 ·intro x; simp
 ·simp
 ·simp
 ·intro p; simp
 ·intro p; simp
 ·intro α x; simp
 ·simp
 ·simp
 ·intro α x y; simp
 ·intro α x y; simp
 ·simp
 ·simp
theorem evM :
  (countMk [] = 0) ∧
  (∀ (o : CO) (r : List CO), countMk (o :: r) = o.op.nmk + countMk r) ∧
  (∀ (x : A), Cop.nmk (.mv x) = 0) ∧
  (∀ (x y z : A), Cop.nmk (.pick x y z) = 0) ∧
  (∀ (z : V), Cop.nmk (.zero z) = 1) ∧
  (∀ (x : A), Cop.nmk (.box x) = 1) ∧
  (∀ (z : List V) (ps : List (Nat × Nat × A)), Cop.nmk (.build z ps) = 0) ∧
  (∀ (sz n : Nat) (z : List D) (ps : List (Nat × A)), Cop.nmk (.bsl sz n z ps) = 1) ∧
  (∀ (g : Bool) (n : Nat) (x : A), Cop.nmk (.ld g n x) = 0) ∧
  (∀ (n : Nat) (x y : A), Cop.nmk (.st n x y) = 0) ∧
  (∀ (x : A), Cop.nmk (.nilc x) = 0) ∧
  (∀ (op : BinOp) (x y : A), Cop.nmk (.bin op x y) = 0) ∧
  (∀ (ks : List CK) (g : Bool) (x y : A), Cop.nmk (.eqa ks g x y) = 0) ∧
  (∀ (g : Bool) (x y : A), Cop.nmk (.eqb g x y) = 0) ∧
  (∀ (op : UnOp) (x : A), Cop.nmk (.un op x) = 0) ∧
  (∀ (g : Bool) (x : A), Cop.nmk (.nils g x) = 0) ∧
  (∀ (k : IntKind) (x : A), Cop.nmk (.conv k x) = 0) ∧
  (∀ (x : A), Cop.nmk (.sid x) = 0) ∧
  (∀ (k : Nat) (f c : List A) (z : Bool), Cop.nmk (.mkf k f c z) = 0) ∧
  (Cop.nmk (.mkm) = 1) ∧
  (∀ (sz b : Nat) (z : List D) (ow : Bool) (x y : A), Cop.nmk (.mks sz b z ow x y) = 1) ∧
  (∀ (x : A), Cop.nmk (.bts x) = 0) ∧
  (∀ (sz : Nat) (x : A) (lo hi : Option A), Cop.nmk (.slc sz x lo hi) = 0) ∧
  (∀ (x : A) (lo hi : Option A), Cop.nmk (.sls x lo hi) = 0) ∧
  (∀ (o : Nat) (x : A), Cop.nmk (.fa o x) = 0) ∧
  (∀ (g : Bool) (o n : Nat) (x : A), Cop.nmk (.fl g o n x) = 0) ∧
  (∀ (sz : Nat) (x y : A), Cop.nmk (.ia sz x y) = 0) ∧
  (∀ (n sz : Nat) (x y : A), Cop.nmk (.iaa n sz x y) = 0) ∧
  (∀ (x y : A), Cop.nmk (.ixs x y) = 0) ∧
  (∀ (g : Bool) (n sz : Nat) (x y : A), Cop.nmk (.ixa g n sz x y) = 0) ∧
  (∀ (k : Nat) (x : A), Cop.nmk (.len k x) = 0) ∧
  (∀ (sz b : Nat) (x y : A), Cop.nmk (.app sz b x y) = 1) ∧
  (∀ (g : Bool) (xs : List A), Cop.nmk (.mm g xs) = 0) ∧
  (∀ (ag : Bool) (ks : List CK) (ok : Bool) (z : V) (m k : A), Cop.nmk (.lk ag ks ok z m k) = 0) ∧
  (∀ (ag : Bool) (ks : List CK) (m k v : A), Cop.nmk (.mu ag ks m k v) = 0) ∧
  (∀ (ag : Bool) (ks : List CK) (m k : A), Cop.nmk (.del ag ks m k) = 0) ∧
  (∀ (x : A), Cop.nmk (.frz x) = 0) ∧
  (∀ (x : A) (i : Nat), Cop.nmk (.ext x i) = 0) ∧
  (∀ (k : Nat) (as : List A) (n : Nat) (z : Bool), Cop.nmk (.call k as n z) = n) ∧
  (∀ (f : A) (as : List A) (n : Nat) (z : Bool), Cop.nmk (.callv f as n z) = n) ∧
  (more 0 = []) ∧
  (∀ (n : Nat), more (n + 1) = none :: more n) := by
 refine ⟨?_, ?_, ?_, ?_, ?_, ?_, ?_, ?_, ?_, ?_, ?_, ?_, ?_, ?_, ?_, ?_, ?_, ?_, ?_, ?_, ?_, ?_, ?_, ?_, ?_, ?_, ?_, ?_, ?_, ?_, ?_, ?_, ?_, ?_, ?_, ?_, ?_, ?_, ?_, ?_, ?_, ?_⟩
 ·exact rfl
 ·intro o r; exact rfl
 ·intro x; exact rfl
 ·intro x y z; exact rfl
 ·intro z; exact rfl
 ·intro x; exact rfl
 ·intro z ps; exact rfl
 ·intro sz n z ps; exact rfl
 ·intro g n x; exact rfl
 ·intro n x y; exact rfl
 ·intro x; exact rfl
 ·intro op x y; exact rfl
 ·intro ks g x y; exact rfl
 ·intro g x y; exact rfl
 ·intro op x; exact rfl
 ·intro g x; exact rfl
 ·intro k x; exact rfl
 ·intro x; exact rfl
 ·intro k f c z; exact rfl
 ·exact rfl
 ·intro sz b z ow x y; exact rfl
 ·intro x; exact rfl
 ·intro sz x lo hi; exact rfl
 ·intro x lo hi; exact rfl
 ·intro o x; exact rfl
 ·intro g o n x; exact rfl
 ·intro sz x y; exact rfl
 ·intro n sz x y; exact rfl
 ·intro x y; exact rfl
 ·intro g n sz x y; exact rfl
 ·intro k x; exact rfl
 ·intro sz b x y; exact rfl
 ·intro g xs; exact rfl
 ·intro ag ks ok z m k; exact rfl
 ·intro ag ks m k v; exact rfl
 ·intro ag ks m k; exact rfl
 ·intro x; exact rfl
 ·intro x i; exact rfl
 ·intro k as n z; exact rfl
 ·intro f as n z; exact rfl
 ·exact rfl
 ·intro n; exact rfl
section
variable {E : Nat → Option Fn} {Q : Ex → St → Prop}
theorem wx_region {ops : List CO} {tm : List (Nat × V)} {hp : List (Option Obj)} (h : ∀ K : St → List Foot → Prop, (∀ s' es, Q .normal s' → K s' es) → go (lcall E) K hp.length ops 0 tm (hp ++ more (countMk ops)) []) : WX E (.region false ops) ⟨tm, hp⟩ Q := by
 obtain ⟨s', es, h1, h2⟩ := rgo_ok ops 0 _ [] _ (h (fun s' _ => Q .normal s') (fun s' _ h => h))
 refine ⟨.normal, s', ?_, h2⟩
 rw [lx_region]
 unfold runRegion
 rw [more_eq] at h1
 simp only [h1, Qm, if_false]
end
open Go
section
variable {C : CallF} {K : St → List Foot → Prop} {b : Nat} {r : List CO} {j : Nat} {tm : List (Nat × V)} {hp : List (Option Obj)} {es : List Foot} {d p : Nat}
theorem go_mkf (k : Nat) (f c : List A) : go C K b (⟨some d, .mkf k f c false, none, p⟩ :: r) j tm hp es = go C K b r j ((d, .fn k (evL tm f) (evL tm c)) :: tm) hp (⟨[], false, b + j, 0⟩ :: es) := by
 rw [go_act _ _ rfl]
 simp only [Cop.args, List.map_append, ← evL_eq, act, Qm, if_false]
 have h1 : (evL tm f).length = f.length := by rw [evL_eq, Qf]
 rw [← h1, List.take_left' rfl, List.drop_left' rfl]
 rfl
def frzL (vs : List V) (hp : List (Option Obj)) : Option (List D × List (Option Obj)) := freezeCaps vs ((ptrIds vs).map (objT hp))
def goMkf (C : CallF) (K : St → List Foot → Prop) (b d k n : Nat) (r : List CO) (j : Nat) (tm : List (Nat × V)) (hp : List (Option Obj)) (es : List Foot) (vs : List V) : Option (List D × List (Option Obj)) → Prop
 | some (c, os) => go C K b r j ((d, .d (.f k (c.take n) (c.drop n))) :: tm) (setObjs hp (ptrIds vs) os) (⟨ptrIds vs, true, b + j, 0⟩ :: es)
 | none => ((ptrIds vs).map (objT hp)).all Option.isSome = true ∧ go C K b r j ((d, .fn k (vs.take n) (vs.drop n)) :: tm) (setObjs hp (ptrIds vs) ((ptrIds vs).map (objT hp))) (⟨ptrIds vs, true, b + j, 0⟩ :: es)
theorem go_mkfT (k : Nat) (f c : List A) : go C K b (⟨some d, .mkf k f c true, none, p⟩ :: r) j tm hp es = (nodupB (ptrIds (evL tm (f ++ c))) = true ∧ goMkf C K b d k f.length r j tm hp es (evL tm (f ++ c)) (frzL (evL tm (f ++ c)) hp)) := by
 rw [go_act _ _ rfl]
 simp only [Cop.args, ← evL_eq, act, if_true, Cop.ids]
 unfold frzL
 generalize evL tm (f ++ c) = vs
 cases nodupB (ptrIds vs) with
 | false => simp [goAct]
 | true =>
  simp only [true_and]
  cases freezeCaps vs ((ptrIds vs).map (objT hp)) with
  | some x => obtain ⟨c', os⟩ := x; simp [goAct, goMkf, Cop.wr, Cop.nmk, Cop.mk, putT, setObjs, Res.nws]
  | none =>
   simp only [goMkf]
   cases ((ptrIds vs).map (objT hp)).all Option.isSome with
   | false => simp [goAct]
   | true => simp [goAct, Cop.wr, Cop.nmk, Cop.mk, putT, setObjs, Res.nws]
def frz2 (off : Nat) (o : Obj) (x : Option (List D)) (y : Option (List D × List (Option Obj))) : Option (List D × List (Option Obj)) := match x, y with
 | some ds, some (c, os) => some (.q ds off :: c, some (.cst ds) :: os)
 | _, _ => none
def frz3 (x : Option D) (y : Option (List D × List (Option Obj))) : Option (List D × List (Option Obj)) := match x, y with
 | some ds, some (c, os) => some (ds :: c, os)
 | _, _ => none
def frzP (id off : Nat) (vs : List V) (hp : List (Option Obj)) : Option Obj → Option (List D × List (Option Obj))
 | some (.box cs) => frz2 off (.box cs) (V.toDs cs) (frzL vs hp)
 | some (.cst ds) => match frzL vs hp with | some (c, os) => some (.q ds off :: c, some (.cst ds) :: os) | none => none
 | _ => none
theorem frzL_ptr (id off : Nat) (vs : List V) : frzL (.ptr id off :: vs) hp = frzP id off vs hp (objT hp id) := by
 simp only [frzL, ptrIds, Qb]
 cases ho : objT hp id with
 | none => simp [freezeCaps, frzP]
 | some o =>
  cases o with
  | box cs => simp only [freezeCaps, frzP, frz2, frzL]; cases V.toDs cs <;> cases freezeCaps vs ((ptrIds vs).map (objT hp)) <;> rfl
  | cst ds => simp only [freezeCaps, frzP, frzL]; cases freezeCaps vs ((ptrIds vs).map (objT hp)) <;> rfl
  | _ => simp [freezeCaps, frzP]
theorem frzL_d (x : D) (vs : List V) : frzL (.d x :: vs) hp = frz3 (some x) (frzL vs hp) := by
 simp only [frzL, ptrIds, freezeCaps, V.toD, frz3]
 cases freezeCaps vs ((ptrIds vs).map (objT hp)) <;> rfl
def mapIds : V → List Nat
 | .map id => [id]
 | _ => []
def lkF (ag : Bool) (ks : List CK) (ok : Bool) (z : V) (hp : List (Option Obj)) (m k : V) : Option V := actLk ag ks ok z [m, k] ((mapIds m).map (objT hp))
def muF (ag : Bool) (ks : List CK) (hp : List (Option Obj)) (m k v : V) : Option (List (Option Obj)) := match actMu ag ks [m, k, v] ((mapIds m).map (objT hp)) with
 | some os => some (setObjs hp (mapIds m) os)
 | none => none
def delF (ag : Bool) (ks : List CK) (hp : List (Option Obj)) (m k : V) : Option (List (Option Obj)) := match actDel ag ks [m, k] ((mapIds m).map (objT hp)) with
 | some os => some (setObjs hp (mapIds m) os)
 | none => none
theorem go_mkm : go C K b (⟨some d, .mkm, none, p⟩ :: r) j tm hp es = go C K b r (j + 1) ((d, .map (b + j)) :: tm) (hp.set (b + j) (some (.map []))) (⟨[], false, b + j, 1⟩ :: es) := by
 rw [go_act _ _ rfl]; rfl
theorem go_lk (ag : Bool) (ks : List CK) (ok : Bool) (z : V) (m k : A) : go C K b (⟨some d, .lk ag ks ok z m k, none, p⟩ :: r) j tm hp es = goV C K b d r j tm hp es (mapIds (evT tm m)) (lkF ag ks ok z hp (evT tm m) (evT tm k)) := by
 rw [go_act _ _ rfl]
 simp only [Cop.args, Qb, Qc, act]
 have h1 : Cop.ids (.lk ag ks ok z m k) [evT tm m, evT tm k] = mapIds (evT tm m) := by cases evT tm m <;> rfl
 rw [h1]
 unfold lkF
 cases actLk ag ks ok z [evT tm m, evT tm k] ((mapIds (evT tm m)).map (objT hp)) <;> rfl
theorem go_mu (dst : Option Nat) (ag : Bool) (ks : List CK) (m k v : A) : go C K b (⟨dst, .mu ag ks m k v, none, p⟩ :: r) j tm hp es = goH C K b dst r j tm es (mapIds (evT tm m)) (muF ag ks hp (evT tm m) (evT tm k) (evT tm v)) := by
 rw [go_act _ _ rfl]
 simp only [Cop.args, Qb, Qc, act]
 have h1 : Cop.ids (.mu ag ks m k v) [evT tm m, evT tm k, evT tm v] = mapIds (evT tm m) := by cases evT tm m <;> rfl
 rw [h1]
 unfold muF
 cases actMu ag ks [evT tm m, evT tm k, evT tm v] ((mapIds (evT tm m)).map (objT hp)) <;> rfl
theorem go_del (dst : Option Nat) (ag : Bool) (ks : List CK) (m k : A) : go C K b (⟨dst, .del ag ks m k, none, p⟩ :: r) j tm hp es = goH C K b dst r j tm es (mapIds (evT tm m)) (delF ag ks hp (evT tm m) (evT tm k)) := by
 rw [go_act _ _ rfl]
 simp only [Cop.args, Qb, Qc, act]
 have h1 : Cop.ids (.del ag ks m k) [evT tm m, evT tm k] = mapIds (evT tm m) := by cases evT tm m <;> rfl
 rw [h1]
 unfold delF
 cases actDel ag ks [evT tm m, evT tm k] ((mapIds (evT tm m)).map (objT hp)) <;> rfl
def lenM (hp : List (Option Obj)) (m : V) : Option V := match m with
 | .map id => match objT hp id with
  | some (.map kvs) => some (.d (.i .i64 kvs.length))
  | _ => none
 | _ => none
theorem go_len2 (x : A) : go C K b (⟨some d, .len 2 x, none, p⟩ :: r) j tm hp es = goV C K b d r j tm hp es (mapIds (evT tm x)) (lenM hp (evT tm x)) := by
 rw [go_act _ _ rfl]
 simp only [Cop.args, Qb, Qc, act]
 have h1 : Cop.ids (.len 2 x) [evT tm x] = mapIds (evT tm x) := by cases evT tm x <;> rfl
 rw [h1]
 cases evT tm x with
 | map id =>
  simp only [mapIds, Qb, Qc, lenM]
  cases objT hp id with
  | none => rfl
  | some o => cases o <;> rfl
 | d x => cases x <;> rfl
 | _ => rfl
def nilmV (neg : Bool) (x : V) : Option V := match nilMap x with
 | some q => some (.d (.b (if neg then !q else q)))
 | none => none
theorem go_nilm (neg : Bool) (x : A) : go C K b (⟨some d, .nilm neg x, none, p⟩ :: r) j tm hp es = goV C K b d r j tm hp es [] (nilmV neg (evT tm x)) := by
 rw [go_act _ _ rfl]
 simp only [Cop.args, Qb, Qc, Cop.ids, act, nilmV]
 cases nilMap (evT tm x) <;> rfl
def eqaT (ks : List CK) (neg : Bool) : V → V → Option V
 | .agg x, .agg y => match V.toDs x, V.toDs y with
  | some x, some y => match eqDs ks x y with | some q => some (.d (.b (if neg then !q else q))) | none => none
  | _, _ => none
 | _, _ => none
theorem go_eqa (ks : List CK) (neg : Bool) (x y : A) : go C K b (⟨some d, .eqa ks neg x y, none, p⟩ :: r) j tm hp es = goV C K b d r j tm hp es [] (eqaT ks neg (evT tm x) (evT tm y)) := by
 rw [go_act _ _ rfl]
 simp only [Cop.args, Qb, Qc, Cop.ids]
 generalize evT tm x = v
 generalize evT tm y = u
 cases v with
 | agg v =>
  cases u with
  | agg u =>
   simp only [act, eqaT]
   cases V.toDs v with
   | none => cases V.toDs u <;> rfl
   | some a => cases V.toDs u with
    | none => rfl
    | some b => simp only; cases eqDs ks a b <;> rfl
  | _ => rfl
 | _ => cases u <;> rfl
def ixaT (ag : Bool) (len sz : Nat) : V → V → Option V
 | .agg cs, .d (.i _ i) => if 0 ≤ i ∧ i < len then asO ag sz (takeV cs (i.toNat * sz) sz) else none
 | _, _ => none
theorem go_ixa (ag : Bool) (len sz : Nat) (x y : A) : go C K b (⟨some d, .ixa ag len sz x y, none, p⟩ :: r) j tm hp es = goV C K b d r j tm hp es [] (ixaT ag len sz (evT tm x) (evT tm y)) := by
 rw [go_act _ _ rfl]
 simp only [Cop.args, Qb, Qc, Cop.ids]
 generalize evT tm x = v
 generalize evT tm y = u
 cases v with
 | agg v =>
  cases u with
  | d u =>
   cases u with
   | i k i =>
    simp only [act, ixaT]
    by_cases hc : 0 ≤ i ∧ i < len
    ·simp only [hc, and_self, if_true]
     cases takeV v (i.toNat * sz) sz with
     | none => rfl
     | some c => simp only [asO]; cases asVar ag sz c <;> rfl
    ·simp only [hc, if_false]; rfl
   | _ => rfl
  | _ => rfl
 | _ => cases u <;> rfl
def iaaT (len sz : Nat) : V → V → Option V
 | .ptr id o, .d (.i _ i) => if 0 ≤ i ∧ i < len then some (.ptr id (o + i.toNat * sz)) else none
 | .d (.q ds o), .d (.i _ i) => if 0 ≤ i ∧ i < len then some (.d (.q ds (o + i.toNat * sz))) else none
 | _, _ => none
theorem go_iaa (len sz : Nat) (x y : A) : go C K b (⟨some d, .iaa len sz x y, none, p⟩ :: r) j tm hp es = goV C K b d r j tm hp es [] (iaaT len sz (evT tm x) (evT tm y)) := by
 rw [go_act _ _ rfl]
 simp only [Cop.args, Qb, Qc, Cop.ids]
 generalize evT tm x = v
 generalize evT tm y = u
 cases v with
 | ptr id o =>
  cases u with
  | d u =>
   cases u with
   | i k i => simp only [act, iaaT]; by_cases hc : 0 ≤ i ∧ i < len <;> simp only [hc, and_self, if_true, if_false] <;> rfl
   | _ => rfl
  | _ => rfl
 | d v =>
  cases v with
  | q ds o =>
   cases u with
   | d u =>
    cases u with
    | i k i => simp only [act, iaaT]; by_cases hc : 0 ≤ i ∧ i < len <;> simp only [hc, and_self, if_true, if_false] <;> rfl
    | _ => rfl
   | _ => rfl
  | _ => cases u <;> rfl
 | _ => cases u <;> rfl
theorem go_mm (mx : Bool) (xs : List A) : go C K b (⟨some d, .mm mx xs, none, p⟩ :: r) j tm hp es = goV C K b d r j tm hp es [] (oD (maxInt mx (evL tm xs))) := by
 rw [go_act _ _ rfl]
 simp only [Cop.args, Cop.ids, act, ← evL_eq]
 cases maxInt mx (evL tm xs) <;> rfl
def fillA1 (sz : Nat) (xs : List (List V)) (i : Nat) (r : List (Nat × V)) (c : Option (List V)) : Option (List (List V)) := match c with
 | some c => if c.length = sz ∧ i < xs.length then fillA sz (xs.set i c) r else none
 | none => none
theorem fillA_cons (sz : Nat) (xs : List (List V)) (i : Nat) (x : V) (r : List (Nat × V)) : fillA sz xs ((i, x) :: r) = fillA1 sz xs i r x.cel := by
 simp only [fillA, fillA1]; cases x.cel <;> rfl
def goR (C : CallF) (K : St → List Foot → Prop) (b d sz n : Nat) (r : List CO) (j : Nat) (tm : List (Nat × V)) (hp : List (Option Obj)) (es : List Foot) : Option (List (List V)) → Prop
 | some xs => go C K b r (j + 1) ((d, .arr (b + j) 0 0 n) :: tm) (hp.set (b + j) (some (.arr 0 sz xs))) (⟨[], false, b + j, 1⟩ :: es)
 | none => False
theorem go_bsa (sz n : Nat) (z : List D) (ps : List (Nat × A)) : go C K b (⟨some d, .bsa sz n z ps, none, p⟩ :: r) j tm hp es = goR C K b d sz n r j tm hp es (fillA sz (List.replicate n (ofDs z)) (evI tm ps)) := by
 rw [go_act _ _ rfl]
 simp only [Cop.args, Cop.ids, act]
 have h1 : zipI ps ((ps.map (·.2)).map (evT tm)) = evI tm ps := by
  unfold evI
  induction ps with
  | nil => rfl
  | cons q ps ih => obtain ⟨a, x⟩ := q; simp only [Qb, zipI, ih]
 rw [h1]
 cases fillA sz (List.replicate n (ofDs z)) (evI tm ps) <;> rfl
def apaY (sz : Nat) (hp : List (Option Obj)) (y : V) : Option (List (List V)) := arrMore sz y ((iaIds y).map (objT hp))
def goAp (C : CallF) (K : St → List Foot → Prop) (b d sz bytes : Nat) (r : List CO) (j : Nat) (tm : List (Nat × V)) (hp : List (Option Obj)) (es : List Foot) (x y : V) (ys : Option (List (List V))) : Prop := match x with
 | .nil _ => match ys with
  | some ys => roomy ys.length bytes = true ∧ go C K b r (j + 1) ((d, .arr (b + j) 0 0 ys.length) :: tm) (setObjs (setObjs hp (iaIds y) ((iaIds y).map (objT hp))) [b + j] [some (.arr 0 sz ys)]) (⟨iaIds y, true, b + j, 1⟩ :: es)
  | none => False
 | .arr id ver off len => match objT hp id, ys with
  | some (.arr ver' sz' xs), some ys => (ver = ver' ∧ sz' = sz ∧ off + len ≤ xs.length ∧ y.other id = true ∧ roomy (len + ys.length) bytes = true) ∧
    go C K b r (j + 1) ((d, .arr id (ver + 1) 0 (len + ys.length)) :: tm) (setObjs hp (id :: iaIds y) (some (.arr (ver + 1) sz ((xs.drop off).take len ++ ys)) :: (iaIds y).map (objT hp))) (⟨id :: iaIds y, true, b + j, 0⟩ :: es)
  | _, _ => False
 | _ => False
theorem go_apa (sz bytes : Nat) (x y : A) : go C K b (⟨some d, .apa sz bytes x y, none, p⟩ :: r) j tm hp es = goAp C K b d sz bytes r j tm hp es (evT tm x) (evT tm y) (apaY sz hp (evT tm y)) := by
 rw [go_act _ _ rfl]
 simp only [Cop.args, Qb, Qc, act]
 generalize evT tm x = v
 generalize evT tm y = u
 have hi : arrIs u = iaIds u := by cases u <;> rfl
 cases v with
 | nil s =>
  rw [apa_ids_nil, hi]
  simp only [actApa, apaNil, goAp, apaY]
  cases arrMore sz u ((iaIds u).map (objT hp)) with
  | none => rfl
  | some ys =>
   simp only
   by_cases hr : roomy ys.length bytes = true
   ·simp only [hr, if_true, true_and]; rfl
   ·simp only [hr]; simp [goAct]
 | arr id ver off len =>
  rw [apa_ids_arr, hi]
  simp only [actApa, Qb, goAp, apaY]
  unfold apaArr
  cases ho : objT hp id with
  | none => rfl
  | some o =>
   cases o with
   | arr ver' sz' xs =>
    simp only
    by_cases hc : ver = ver' ∧ sz' = sz ∧ off + len ≤ xs.length ∧ u.other id = true
    ·rw [if_pos hc]
     cases arrMore sz u ((iaIds u).map (objT hp)) with
     | none => rfl
     | some ys =>
      simp only
      by_cases hr : roomy (len + ys.length) bytes = true
      ·rw [if_pos hr]
       exact propext ⟨fun h => ⟨⟨hc.1, hc.2.1, hc.2.2.1, hc.2.2.2, hr⟩, h⟩, fun h => h.2⟩
      ·rw [if_neg hr]
       exact propext ⟨fun h => h.elim, fun h => hr h.1.2.2.2.2⟩
    ·rw [if_neg hc]
     cases arrMore sz u ((iaIds u).map (objT hp)) with
     | none => rfl
     | some ys => simp only [goAct]; exact propext ⟨fun h => h.elim, fun h => hc ⟨h.1.1, h.1.2.1, h.1.2.2.1, h.1.2.2.2.1⟩⟩
   | _ => rfl
 | _ => rfl
def goLend (C : CallF) (K : St → List Foot → Prop) (b : Nat) (dst : Option Nat) (key : Nat) (r : List CO) (j : Nat) (tm : List (Nat × V)) (hp : List (Option Obj)) (es : List Foot) (hs : Option (List V)) : Prop :=
 goCall C K b dst 0 r j tm hp es (ent1 (frzCall .lend C) (objT hp) key 0 (b + j) hs)
theorem go_lend (dst : Option Nat) (key : Nat) (as : List A) : go C K b (⟨dst, .lend key as, none, p⟩ :: r) j tm hp es = goLend C K b dst key r j tm hp es (V.handAll (evL tm as)) := by
 have ho : (⟨tm, hp⟩ : St).obj = objT hp := rfl
 simp only [go, rgo, opEff, wanted, ev_evT, Cop.isCall, if_true, callee, Cop.args, ho, enter_ent, evL_eq, goLend]
 rw [show Md.lend.hands (as.map (evT tm)) = V.handAll (as.map (evT tm)) from rfl]
 cases ent1 (frzCall .lend C) (objT hp) key 0 (b + j) (V.handAll (as.map (evT tm))) with
 | none => rfl
 | some x => obtain ⟨v, is, os, ns⟩ := x; cases dst <;> rfl
theorem go_callr (dst : Option Nat) (key : Nat) (as : List A) (res : Nat) : go C K b (⟨dst, .callr key as res, none, p⟩ :: r) j tm hp es = goCall C K b dst res r j tm hp es (ent1 C (objT hp) key res (b + j) (V.rawAll (evL tm as))) := by
 have ho : (⟨tm, hp⟩ : St).obj = objT hp := rfl
 simp only [go, rgo, opEff, wanted, ev_evT, Cop.isCall, if_true, callee, Cop.args, ho, enter_ent, evL_eq]
 rw [show Md.raw.hands (as.map (evT tm)) = V.rawAll (as.map (evT tm)) from rfl, show frzCall .raw C = C from rfl]
 cases ent1 C (objT hp) key res (b + j) (V.rawAll (as.map (evT tm))) with
 | none => rfl
 | some x => obtain ⟨v, is, os, ns⟩ := x; cases dst <;> rfl
end
section
variable (E : Nat → Option Fn) (Q : Ex → St → Prop)
theorem wq_seq (a b : CCode) (s : St) : WX E (.seq a b) s Q = WX E a s (seqQ E b Q) := by
 refine propext ⟨fun ⟨ex, s', h1, h2⟩ => ?_, wx_seq⟩
 rw [lx_seq] at h1
 split at h1
 ·rename_i s1 ha
  exact ⟨.normal, s1, ha, ex, s', h1, h2⟩
 ·rename_i hne
  refine ⟨ex, s', h1, ?_⟩
  cases ex with
  | normal => exact absurd h1 (hne s')
  | exit id => exact h2
  | ret => exact h2
theorem wq_skip (s : St) : WX E .skip s Q = Q .normal s := by
 refine propext ⟨fun ⟨ex, s', h1, h2⟩ => ?_, wx_skip⟩
 rw [lx_skip] at h1; cases h1; exact h2
theorem wq_exit (id : Nat) (s : St) : WX E (.exit id) s Q = Q (.exit id) s := by
 refine propext ⟨fun ⟨ex, s', h1, h2⟩ => ?_, wx_exit⟩
 rw [lx_exit] at h1; cases h1; exact h2
theorem wq_ret (s : St) : WX E .ret s Q = Q .ret s := by
 refine propext ⟨fun ⟨ex, s', h1, h2⟩ => ?_, wx_ret⟩
 rw [lx_ret] at h1; cases h1; exact h2
theorem wq_block (id : Nat) (c : CCode) (s : St) : WX E (.block id c) s Q = WX E c s (blockQ id Q) := by
 refine propext ⟨fun ⟨ex, s', h1, h2⟩ => ?_, wx_block⟩
 rw [lx_block] at h1
 cases hc : lx E c s with
 | none => rw [hc] at h1; cases h1
 | some x =>
  obtain ⟨ex1, s1⟩ := x
  rw [hc] at h1
  refine ⟨ex1, s1, hc, ?_⟩
  cases ex1 with
  | normal => cases h1; exact h2
  | ret => cases h1; exact h2
  | exit id' =>
   simp only at h1
   simp only [blockQ]
   split at h1
   ·rename_i e; cases h1; rw [if_pos e]; exact h2
   ·rename_i e; cases h1; rw [if_neg e]; exact h2
def condP (v : V) (p q : Prop) : Prop := match v with
 | .d (.b x) => if x = true then p else q
 | _ => False
theorem wq_cond (c : A) (a b : CCode) (tm : List (Nat × V)) (hp : List (Option Obj)) : WX E (.cond c a b) ⟨tm, hp⟩ Q = condP (evT tm c) (WX E a ⟨tm, hp⟩ Q) (WX E b ⟨tm, hp⟩ Q) := by
 have he : (⟨tm, hp⟩ : St).ev c = evT tm c := congrFun (ev_evT tm hp) c
 refine propext ⟨fun ⟨ex, s', h1, h2⟩ => ?_, fun h => ?_⟩
 ·rw [lx_cond, he] at h1
  split at h1
  ·rename_i e; rw [e]; exact ⟨ex, s', h1, h2⟩
  ·rename_i e; rw [e]; exact ⟨ex, s', h1, h2⟩
  ·cases h1
 ·unfold condP at h
  split at h
  ·rename_i x e
   cases x with
   | true => exact wx_cond true (by rw [he, e]) (fun _ => h) (fun h => by cases h)
   | false => exact wx_cond false (by rw [he, e]) (fun h => by cases h) (fun _ => h)
  ·exact h.elim
theorem wq_region {ops : List CO} {tm : List (Nat × V)} {hp : List (Option Obj)} (h : go (lcall E) (fun s _ => Q .normal s) hp.length ops 0 tm (hp ++ more (countMk ops)) []) : WX E (.region false ops) ⟨tm, hp⟩ Q := by
 refine wx_region (fun K hK => ?_)
 have mono : ∀ (ops : List CO) (j : Nat) (s : St) (es : List Foot), rgo (lcall E) hp.length ops j s es (fun s _ => Q .normal s) → rgo (lcall E) hp.length ops j s es K := by
  intro ops
  induction ops with
  | nil => intro j s es h; exact hK _ _ h
  | cons o r ih =>
   intro j s es h
   simp only [rgo] at h ⊢
   split at h
   ·exact h.elim
   ·exact ih _ _ _ h
 exact mono _ _ _ _ h
end
open Go
theorem rgo_of {C : CallF} {base : Nat} : ∀ (ops : List CO) (j : Nat) (s : St) (es : List Foot) (K : St → List Foot → Prop) (s' : St) (es' : List Eff), runOps C base ops j s = some (s', es') → K s' (es.reverse ++ es'.map Eff.foot) → rgo C base ops j s es K
 | [], j, s, es, K, s', es', h, hk => by
  simp only [runOps, Qa, Qj] at h
  obtain ⟨rfl, rfl⟩ := h
  simpa [rgo] using hk
 | o :: r, j, s, es, K, s', es', h, hk => by
  simp only [runOps] at h
  simp only [rgo]
  split at h
  ·cases h
  ·rename_i e he
   split at h
   ·rename_i s2 es2 hes
    simp only [Qa, Qj] at h
    obtain ⟨rfl, rfl⟩ := h
    rw [he]
    exact rgo_of r _ _ (e.foot :: es) K s2 es2 hes (by simpa only [List.reverse_cons, List.append_assoc, Qb, List.singleton_append] using hk)
   ·cases h
section
variable (E : Nat → Option Fn) (Q : Ex → St → Prop)
theorem wq_reg (ops : List CO) (tm : List (Nat × V)) (hp : List (Option Obj)) : WX E (.region false ops) ⟨tm, hp⟩ Q = go (lcall E) (fun s _ => Q .normal s) hp.length ops 0 tm (hp ++ more (countMk ops)) [] := by
 refine propext ⟨fun ⟨ex, s', h1, h2⟩ => ?_, wq_region E Q⟩
 rw [lx_region] at h1
 split at h1
 ·rename_i s2 hs
  simp only [Qa, Qj] at h1
  obtain ⟨rfl, rfl⟩ := h1
  unfold runRegion at hs
  simp only [Qm, if_false] at hs
  split at hs
  ·rename_i s3 es3 he
   simp only [Qa] at hs
   subst hs
   unfold go
   rw [more_eq]
   exact rgo_of ops 0 _ [] _ _ _ he h2
  ·cases hs
 ·cases h1
theorem wq_regT (ops : List CO) (tm : List (Nat × V)) (hp : List (Option Obj)) : WX E (.region true ops) ⟨tm, hp⟩ Q = go (lcall E) (fun s es => noRaceT ops es 0 = true ∧ Q .normal s) hp.length ops 0 tm (hp ++ more (countMk ops)) [] := by
 refine propext ⟨fun ⟨ex, s', h1, h2⟩ => ?_, fun h => ?_⟩
 ·rw [lx_region] at h1
  split at h1
  ·rename_i s2 hs
   simp only [Qa, Qj] at h1
   obtain ⟨rfl, rfl⟩ := h1
   unfold runRegion at hs
   simp only [if_true] at hs
   split at hs
   ·rename_i s3 es3 he
    split at hs
    ·rename_i hn
     simp only [Qa] at hs
     subst hs
     unfold go
     rw [more_eq]
     exact rgo_of ops 0 _ [] _ _ _ he ⟨by rw [List.reverse_nil, List.nil_append, noRaceT_eq]; exact hn, h2⟩
    ·cases hs
   ·cases hs
  ·cases h1
 ·obtain ⟨s', es, h1, h2, h3⟩ := rgo_ok ops 0 _ [] _ h
  refine ⟨.normal, s', ?_, h3⟩
  rw [lx_region]
  unfold runRegion
  rw [more_eq] at h1
  simp only [List.reverse_nil, List.nil_append] at h2
  rw [noRaceT_eq] at h2
  simp only [h1, if_true, h2]
end
def fin (m : Nat) (rets : List Ret) (r : V × List (Option Obj)) (ex : Ex) (s : St) : Prop := (ex = .normal ∨ ex = .ret) ∧ result m s rets = some r
theorem call_q {E : Nat → Option Fn} {key : Nat} {f : CFn} (h : E key = some (.code f)) {args : List V} {hp : List (Option Obj)} {r : V × List (Option Obj)} (k : WX E f.body (entry args hp) (fin hp.length f.rets r)) : lcall E key args hp = some r := call_wx h k
def finP (m : Nat) (rets : List Ret) (R : V × List (Option Obj) → Prop) (ex : Ex) (s : St) : Prop := (ex = .normal ∨ ex = .ret) ∧ ∃ r, result m s rets = some r ∧ R r
def resP (R : V × List (Option Obj) → Prop) : Option (V × List (Option Obj)) → Prop
 | some r => R r
 | none => False
theorem evQ :
  (∀ (E : Nat → Option Fn) (Q : Ex → St → Prop) (a b : CCode) (s : St), WX E (.seq a b) s Q = WX E a s (seqQ E b Q)) ∧
  (∀ (E : Nat → Option Fn) (Q : Ex → St → Prop) (s : St), WX E .skip s Q = Q .normal s) ∧
  (∀ (E : Nat → Option Fn) (Q : Ex → St → Prop) (id : Nat) (s : St), WX E (.exit id) s Q = Q (.exit id) s) ∧
  (∀ (E : Nat → Option Fn) (Q : Ex → St → Prop) (s : St), WX E .ret s Q = Q .ret s) ∧
  (∀ (E : Nat → Option Fn) (Q : Ex → St → Prop) (id : Nat) (c : CCode) (s : St), WX E (.block id c) s Q = WX E c s (blockQ id Q)) ∧
  (∀ (E : Nat → Option Fn) (Q : Ex → St → Prop) (c : A) (a b : CCode) (tm : List (Nat × V)) (hp : List (Option Obj)), WX E (.cond c a b) ⟨tm, hp⟩ Q = condP (evT tm c) (WX E a ⟨tm, hp⟩ Q) (WX E b ⟨tm, hp⟩ Q)) ∧
  (∀ (E : Nat → Option Fn) (Q : Ex → St → Prop) (ops : List CO) (tm : List (Nat × V)) (hp : List (Option Obj)), WX E (.region false ops) ⟨tm, hp⟩ Q = go (lcall E) (fun s _ => Q .normal s) hp.length ops 0 tm (hp ++ more (countMk ops)) []) ∧
  (∀ (E : Nat → Option Fn) (Q : Ex → St → Prop) (ops : List CO) (tm : List (Nat × V)) (hp : List (Option Obj)), WX E (.region true ops) ⟨tm, hp⟩ Q = go (lcall E) (fun s es => noRaceT ops es 0 = true ∧ Q .normal s) hp.length ops 0 tm (hp ++ more (countMk ops)) []) ∧
  (∀ (E : Nat → Option Fn) (Q : Ex → St → Prop) (b : CCode) (s : St), seqQ E b Q .normal s = WX E b s Q) ∧
  (∀ (E : Nat → Option Fn) (Q : Ex → St → Prop) (b : CCode) (id : Nat) (s : St), seqQ E b Q (.exit id) s = Q (.exit id) s) ∧
  (∀ (E : Nat → Option Fn) (Q : Ex → St → Prop) (b : CCode) (s : St), seqQ E b Q .ret s = Q .ret s) ∧
  (∀ (Q : Ex → St → Prop) (id : Nat) (s : St), blockQ id Q .normal s = Q .normal s) ∧
  (∀ (Q : Ex → St → Prop) (id : Nat) (s : St), blockQ id Q .ret s = Q .ret s) ∧
  (∀ (Q : Ex → St → Prop) (id id' : Nat) (s : St), blockQ id Q (.exit id') s = if id' = id then Q .normal s else Q (.exit id') s) ∧
  (∀ (x : Bool) (p q : Prop), condP (.d (.b x)) p q = if x = true then p else q) ∧
  (∀ (m : Nat) (rets : List Ret) (r : V × List (Option Obj)) (tm : List (Nat × V)) (hp : List (Option Obj)), fin m rets r .normal ⟨tm, hp⟩ = (res1 m hp (retAll ⟨tm, hp⟩ rets) = some r)) ∧
  (∀ (m : Nat) (rets : List Ret) (r : V × List (Option Obj)) (tm : List (Nat × V)) (hp : List (Option Obj)), fin m rets r .ret ⟨tm, hp⟩ = (res1 m hp (retAll ⟨tm, hp⟩ rets) = some r)) ∧
  (∀ (m : Nat) (rets : List Ret) (R : V × List (Option Obj) → Prop) (tm : List (Nat × V)) (hp : List (Option Obj)), finP m rets R .normal ⟨tm, hp⟩ = resP R (res1 m hp (retAll ⟨tm, hp⟩ rets))) ∧
  (∀ (m : Nat) (rets : List Ret) (R : V × List (Option Obj) → Prop) (tm : List (Nat × V)) (hp : List (Option Obj)), finP m rets R .ret ⟨tm, hp⟩ = resP R (res1 m hp (retAll ⟨tm, hp⟩ rets))) ∧
  (∀ (R : V × List (Option Obj) → Prop) (r : V × List (Option Obj)), resP R (some r) = R r) := by
 have hP : ∀ (m : Nat) (rets : List Ret) (R : V × List (Option Obj) → Prop) (tm : List (Nat × V)) (hp : List (Option Obj)), (∃ r, result m ⟨tm, hp⟩ rets = some r ∧ R r) = resP R (res1 m hp (retAll ⟨tm, hp⟩ rets)) := fun m rets R tm hp => by
  rw [result_res]
  cases res1 m hp (retAll ⟨tm, hp⟩ rets) with
  | none => simp [resP]
  | some r => simp [resP]
 refine ⟨?_, ?_, ?_, ?_, ?_, ?_, ?_, ?_, ?_, ?_, ?_, ?_, ?_, ?_, ?_, ?_, ?_, ?_, ?_, ?_⟩
 ·intro E Q a b s; exact wq_seq E Q a b s
 ·intro E Q s; exact wq_skip E Q s
 ·intro E Q id s; exact wq_exit E Q id s
 ·intro E Q s; exact wq_ret E Q s
 ·intro E Q id c s; exact wq_block E Q id c s
 ·intro E Q c a b tm hp; exact wq_cond E Q c a b tm hp
 ·intro E Q ops tm hp; exact wq_reg E Q ops tm hp
 ·intro E Q ops tm hp; exact wq_regT E Q ops tm hp
 ·intro E Q b s; rfl
 ·intro E Q b id s; rfl
 ·intro E Q b s; rfl
 ·intro Q id s; rfl
 ·intro Q id s; rfl
 ·intro Q id id' s; rfl
 ·intro x p q; rfl
 ·intro m rets r tm hp; simp [fin, result_res]
 ·intro m rets r tm hp; simp [fin, result_res]
 ·intro m rets R tm hp; unfold finP; rw [hP]; simp
 ·intro m rets R tm hp; unfold finP; rw [hP]; simp
 ·intro R r; rfl
open Go
section
variable {E : Nat → Option Fn} {Q : Ex → St → Prop} {tm : List (Nat × V)} {hp : List (Option Obj)}
def rg4 (K : Ex → St → Prop) (tm : List (Nat × V)) (l : Nat) (h : List (Option Obj)) (key : Nat) (caps : List V) : Option Ex → Prop
 | some ex => K ex ⟨tm, h.set l (some (.lp 1 key caps))⟩
 | none => False
def rg3 (K : Ex → St → Prop) (tm : List (Nat × V)) (l : Nat) (h : List (Option Obj)) : Option Obj → Prop
 | some (.lp j key caps) => rg4 K tm l h key caps (exLp j)
 | _ => False
def rg2 (K : Ex → St → Prop) (tm : List (Nat × V)) (h0 : List (Option Obj)) (l : Nat) : Option (V × List Nat × List (Option Obj) × List (Option Obj)) → Prop
 | some (_, is, os, ns) => rg3 K tm l (setObjs (setObjs h0 is os) (List.range' (l + 1) ns.length) ns) (objT (setObjs (setObjs h0 is os) (List.range' (l + 1) ns.length) ns) l)
 | none => False
def rg1 (C : CallF) (K : Ex → St → Prop) (tm : List (Nat × V)) (h0 : List (Option Obj)) (l res : Nat) : Option (Nat × List V) → Prop
 | some (k, vs) => rg2 K tm h0 l (ent1 C (objT h0) k res (l + 1) (V.handAll vs))
 | none => False
def capsT (tm : List (Nat × V)) : List Nat → List V
 | [] => []
 | t :: r => look tm t :: capsT tm r
theorem capsT_eq (tm : List (Nat × V)) : ∀ (ks : List Nat), ks.map (look tm) = capsT tm ks
 | [] => rfl
 | t :: r => by simp only [Qb, capsT, capsT_eq tm r]
def boxesR : List (Nat × Nat) → St → St
 | [], s => s
 | t :: r, s => boxesR r (ownBox s t)
def rg0 (C : CallF) (K : Ex → St → Prop) (f : A) (key res : Nat) (ks : List Nat) : St → Prop
 | ⟨tm, hp⟩ => rg1 C K tm (hp ++ some (.lp 0 key (capsT tm ks)) :: more res) hp.length res (rangeArgs (evT tm f) (.fn key [.map hp.length] []))
def outP (K : Ex → St → Prop) : Option (Ex × St) → Prop
 | some (ex, s) => K ex s
 | none => False
theorem rg0_eq (C : CallF) (K : Ex → St → Prop) (f : A) (key res : Nat) (ks : List Nat) (tm : List (Nat × V)) (hp : List (Option Obj)) : outP K (rangeC C f key ks res ⟨tm, hp⟩) = rg0 C K f key res ks ⟨tm, hp⟩ := by
 simp only [rg0]
 unfold rangeC
 have hcaps : List.map (St.get ⟨tm, hp⟩) ks = capsT tm ks := capsT_eq tm ks
 have hev : St.ev ⟨tm, hp⟩ f = evT tm f := by rw [ev_evT]
 simp only [hcaps, hev, ← more_eq]
 cases hr : rangeArgs (evT tm f) (.fn key [.map hp.length] []) with
 | none => rfl
 | some x =>
  obtain ⟨k, vs⟩ := x
  simp only [rg1]
  have hob : St.obj ⟨tm, hp ++ some (.lp 0 key (capsT tm ks)) :: more res⟩ = objT (hp ++ some (.lp 0 key (capsT tm ks)) :: more res) := rfl
  simp only [hob, enter_ent]
  have hh : Md.hands .keep vs = V.handAll vs := rfl
  rw [hh]
  cases he : ent1 C (objT (hp ++ some (.lp 0 key (capsT tm ks)) :: more res)) k res (hp.length + 1) (V.handAll vs) with
  | none => rfl
  | some x =>
   obtain ⟨r, is, os, ns⟩ := x
   simp only [rg2]
   have hon : (⟨none, r, is, true, os, hp.length + 1, ns⟩ : Eff).on ⟨tm, hp ++ some (.lp 0 key (capsT tm ks)) :: more res⟩ = ⟨tm, setObjs (setObjs (hp ++ some (.lp 0 key (capsT tm ks)) :: more res) is os) (List.range' (hp.length + 1) ns.length) ns⟩ := rfl
   simp only [hon]
   generalize setObjs (setObjs (hp ++ some (.lp 0 key (capsT tm ks)) :: more res) is os) (List.range' (hp.length + 1) ns.length) ns = H
   have hob2 : St.obj ⟨tm, H⟩ hp.length = objT H hp.length := rfl
   simp only [hob2]
   cases ho : objT H hp.length with
   | none => rfl
   | some o =>
    cases o with
    | lp j key' caps =>
     simp only [rg3]
     cases hx : exLp j <;> rfl
    | _ => rfl
theorem wq_range (E : Nat → Option Fn) (Q : Ex → St → Prop) (own : List (Nat × Nat)) (f : A) (key res : Nat) (ks : List Nat) (s : St) : WX E (.range own f key ks res) s Q = rg0 (lcall E) Q f key res ks (boxesR own s) := by
 have hb : ∀ (l : List (Nat × Nat)) (s : St), l.foldl ownBox s = boxesR l s := by
  intro l
  induction l with
  | nil => intro s; rfl
  | cons t l ih => intro s; exact ih _
 unfold WX
 rw [lx_range, hb]
 cases boxesR own s with
 | mk tm hp =>
  rw [← rg0_eq]
  cases rangeC (lcall E) f key ks res ⟨tm, hp⟩ with
  | none => exact propext ⟨fun ⟨_, _, h, _⟩ => by (cases h), fun h => h.elim⟩
  | some x =>
   obtain ⟨ex, s'⟩ := x
   exact propext ⟨fun ⟨_, _, h, k⟩ => by cases h; exact k, fun h => ⟨ex, s', rfl, h⟩⟩
def rd4 (K : Ex → St → Prop) (tm : List (Nat × V)) (hp : List (Option Obj)) (id : Nat) : Option Obj → Prop
 | some (.lp 0 k c) => K .normal ⟨tm, hp.set id (some (.lp 1 k c))⟩
 | _ => False
def rdA (id : Nat) (K : Ex → St → Prop) : Ex → St → Prop
 | .normal, ⟨tm, hp⟩ => rd4 K tm hp id (objT hp id)
 | _, _ => False
def rd5 (m id : Nat) (ex : Ex) (hp : List (Option Obj)) (r : V × List (Option Obj)) : Option Obj → Prop
 | some (.lp 1 k c) => res1 m (hp.set id (some (.lp (lpEx ex) k c))) (some [.d (.b (decide (ex = .normal)))]) = some r
 | _ => False
def rdB (m id : Nat) (r : V × List (Option Obj)) : Ex → St → Prop
 | ex, ⟨tm, hp⟩ => rd5 m id ex hp r (objT hp id)
theorem call_round {key : Nat} {ps ks : List Nat} {a c : CCode} (h : E key = some (.round ps ks a c)) {fk id : Nat} {as caps : List V} {hp : List (Option Obj)} {r : V × List (Option Obj)} (ho : objT hp id = some (.lp 0 key caps)) (hl : as.length = ps.length) (hc : caps.length = ks.length)
  (k : WX E a ⟨zipT ps as ++ zipT ks caps, hp⟩ (rdA id fun _ s => WX E c s (rdB hp.length id r))) : lcall E key (.fn fk [.map id] [] :: as) hp = some r := by
 rw [lcall_round h]
 unfold roundW
 have ho' : (hp[id]?).join = some (.lp 0 key caps) := ho
 simp only [ho']
 rw [if_pos ⟨trivial, hl, hc⟩]
 obtain ⟨ex, ⟨tm1, h1⟩, k1, k2⟩ := k
 rw [k1]
 cases ex with
 | normal =>
  simp only [rdA] at k2
  have hob : St.obj ⟨tm1, h1⟩ id = objT h1 id := rfl
  simp only [hob]
  cases e1 : objT h1 id with
  | none => rw [e1] at k2; exact k2.elim
  | some o =>
   rw [e1] at k2
   cases o with
   | lp j k1 c1 =>
    cases j with
    | zero =>
     simp only [rd4] at k2
     obtain ⟨ex, ⟨tm2, h2⟩, m1, m2⟩ := k2
     simp only
     rw [m1]
     simp only
     simp only [rdB] at m2
     have hob2 : St.obj ⟨tm2, h2⟩ id = objT h2 id := rfl
     simp only [hob2]
     cases e2 : objT h2 id with
     | none => rw [e2] at m2; exact m2.elim
     | some o =>
      rw [e2] at m2
      cases o with
      | lp j k3 c3 =>
       match j, m2 with
       | 1, m2 =>
        simp only [rd5, res1] at m2
        simp only
        rw [← m2]
        unfold resultV
        rw [rng_eq, ← List.range_eq_range']
        show (match reach (objT (h2.set id (some (.lp (lpEx ex) k3 c3)))) far (List.range hp.length ++ V.refsAll [V.d (.b (decide (ex = .normal)))]) [] with | none => none | some L => _) = _
        cases reach (objT (h2.set id (some (.lp (lpEx ex) k3 c3)))) far (List.range hp.length ++ V.refsAll [V.d (.b (decide (ex = .normal)))]) [] with
        | none => rfl
        | some L =>
         simp only [res2]
         show (match renObjs (placeOf L) noShift 0 (L.map (objT (h2.set id (some (.lp (lpEx ex) k3 c3))))) with | none => none | some h => _) = _
         cases renObjs (placeOf L) noShift 0 (L.map (objT (h2.set id (some (.lp (lpEx ex) k3 c3))))) <;> rfl
       | 0, m2 => exact m2.elim
       | _ + 2, m2 => exact m2.elim
      | _ => exact m2.elim
    | succ j => exact k2.elim
   | _ => exact k2.elim
 | exit i => exact k2.elim
 | ret => exact k2.elim
end
theorem evG :
  (∀ (j key : Nat) (cs : List V), Obj.refs (some (.lp j key cs)) = V.refsAll cs) ∧
  (∀ (f sh : Nat → Nat) (s j key : Nat) (cs : List V), Obj.ren f sh s (.lp j key cs) = .lp j key (V.renAll f sh cs)) ∧
  (∀ (j key : Nat) (cs : List V), verOf (some (.lp j key cs)) = 0) ∧
  (∀ (n j key : Nat) (cs : List V), Obj.under n (some (.lp j key cs)) = V.underAll n cs) ∧
  (∀ (h : List (Option Obj)) (j key : Nat) (cs : List V), normObj h (some (.lp j key cs)) = some (.lp j key (cs.map (normV h)))) ∧
  (∀ (k id : Nat), V.hand (.fn k [.map id] []) = some (.fn k [.map id] [])) ∧
  (∀ (k id off : Nat) (r : List V), V.hand (.fn k [] (.ptr id off :: r)) = match V.handAll (.ptr id off :: r) with | some c => some (.fn k [] c) | none => none) ∧
  (∀ (n k id : Nat), V.under n (.fn k [.map id] []) = decide (id < n)) ∧
  (∀ (h : List (Option Obj)) (k id : Nat), normC h (.fn k [.map id] []) = .fn k [.map id] []) ∧
  (∀ (k id : Nat), V.fine (.fn k [.map id] []) = true) ∧
  (∀ (tm : List (Nat × V)), capsT tm [] = []) ∧
  (∀ (tm : List (Nat × V)) (t : Nat) (r : List Nat), capsT tm (t :: r) = look tm t :: capsT tm r) ∧
  (∀ (s : St), boxesR [] s = s) ∧
  (∀ (s : St) (t : Nat × Nat) (r : List (Nat × Nat)), boxesR (t :: r) s = boxesR r (ownBox s t)) ∧
  (∀ (C : CallF) (K : Ex → St → Prop) (f : A) (key res : Nat) (ks : List Nat) (tm : List (Nat × V)) (hp : List (Option Obj)), rg0 C K f key res ks ⟨tm, hp⟩ = rg1 C K tm (hp ++ some (.lp 0 key (capsT tm ks)) :: more res) hp.length res (rangeArgs (evT tm f) (.fn key [.map hp.length] []))) ∧
  (∀ (C : CallF) (K : Ex → St → Prop) (tm : List (Nat × V)) (h0 : List (Option Obj)) (l res k : Nat) (vs : List V), rg1 C K tm h0 l res (some (k, vs)) = rg2 K tm h0 l (ent1 C (objT h0) k res (l + 1) (V.handAll vs))) ∧
  (∀ (K : Ex → St → Prop) (tm : List (Nat × V)) (h0 : List (Option Obj)) (l : Nat) (r : V) (is : List Nat) (os ns : List (Option Obj)), rg2 K tm h0 l (some (r, is, os, ns)) = rg3 K tm l (setObjs (setObjs h0 is os) (List.range' (l + 1) ns.length) ns) (objT (setObjs (setObjs h0 is os) (List.range' (l + 1) ns.length) ns) l)) ∧
  (∀ (K : Ex → St → Prop) (tm : List (Nat × V)) (l : Nat) (h : List (Option Obj)) (j key : Nat) (caps : List V), rg3 K tm l h (some (.lp j key caps)) = rg4 K tm l h key caps (exLp j)) ∧
  (∀ (K : Ex → St → Prop) (tm : List (Nat × V)) (l : Nat) (h : List (Option Obj)) (key : Nat) (caps : List V) (ex : Ex), rg4 K tm l h key caps (some ex) = K ex ⟨tm, h.set l (some (.lp 1 key caps))⟩) ∧
  (exLp 0 = some .normal) ∧ (exLp 2 = some .ret) ∧ (∀ (j : Nat), exLp (j + 3) = some (.exit j)) ∧
  (lpEx .normal = 0) ∧ (lpEx .ret = 2) ∧ (∀ (j : Nat), lpEx (.exit j) = j + 3) ∧
  (∀ (k : Nat) (a c : List D) (y : V), rangeArgs (.d (.f k a c)) y = some (k, ofDs a ++ [y] ++ ofDs c)) ∧
  (∀ (k : Nat) (c : List V) (y : V), rangeArgs (.fn k [] c) y = some (k, [] ++ [y] ++ c)) ∧
  (∀ (K : Ex → St → Prop) (id : Nat) (tm : List (Nat × V)) (hp : List (Option Obj)), rdA id K .normal ⟨tm, hp⟩ = rd4 K tm hp id (objT hp id)) ∧
  (∀ (K : Ex → St → Prop) (id k : Nat) (c : List V) (tm : List (Nat × V)) (hp : List (Option Obj)), rd4 K tm hp id (some (.lp 0 k c)) = K .normal ⟨tm, hp.set id (some (.lp 1 k c))⟩) ∧
  (∀ (m id : Nat) (r : V × List (Option Obj)) (ex : Ex) (tm : List (Nat × V)) (hp : List (Option Obj)), rdB m id r ex ⟨tm, hp⟩ = rd5 m id ex hp r (objT hp id)) ∧
  (∀ (m id : Nat) (r : V × List (Option Obj)) (ex : Ex) (hp : List (Option Obj)) (k : Nat) (c : List V), rd5 m id ex hp r (some (.lp 1 k c)) = (res1 m (hp.set id (some (.lp (lpEx ex) k c))) (some [.d (.b (decide (ex = .normal)))]) = some r)) ∧
  (∀ tm hp (t : Nat), retV ⟨tm, hp⟩ (.raw t) = V.rawH (look tm t)) ∧
  (∀ (sz : Nat), V.rawH (.nil sz) = some (.nil sz)) ∧ (∀ (x : D), V.rawH (.d x) = some (.d x)) ∧ (∀ (id ver off len : Nat), V.rawH (.arr id ver off len) = some (.arr id ver off len)) ∧ (∀ (id ver sz : Nat) (xs : List (List D)), V.rawH (.own id ver sz xs) = some (.d (.l sz xs))) ∧
  (V.rawAll [] = some []) ∧ (∀ (x : V) (r : List V), V.rawAll (x :: r) = consV (V.rawH x) (V.rawAll r)) ∧
  (∀ (t : Nat) (ts : List Nat) (v : V) (vs : List V), zipT (t :: ts) (v :: vs) = (t, v) :: zipT ts vs) ∧
  (zipT [] [] = []) := by
 refine ⟨?_, ?_, ?_, ?_, ?_, ?_, ?_, ?_, ?_, ?_, ?_, ?_, ?_, ?_, ?_, ?_, ?_, ?_, ?_, rfl, rfl, ?_, rfl, rfl, ?_, ?_, ?_, ?_, ?_, ?_, ?_, ?_, ?_, ?_, ?_, ?_, rfl, ?_, ?_, rfl⟩
 ·intros; rfl
 ·intros; rfl
 ·intros; rfl
 ·intros; rfl
 ·intros; rfl
 ·intros; simp [V.hand, V.toDs, V.toD, V.handAll]
 ·intro k id off r
  simp only [V.hand]
  have h1 : V.toDs (.ptr id off :: r) = none := by simp [V.toDs, V.toD]
  have h2 : V.toDs [] = some [] := rfl
  simp only [h1, h2]
  have h3 : V.handAll [] = some [] := rfl
  rw [h3]
  cases V.handAll (.ptr id off :: r) <;> rfl
 ·intros; simp [V.under, V.underAll]
 ·intros; simp [normC, V.fine, V.fineAll]
 ·intros; simp [V.fine, V.fineAll]
 all_goals first | (intros; rfl) | (intro x r; simp only [V.rawAll]; cases V.rawH x <;> cases V.rawAll r <;> rfl)
open Go
def foldO (k : IntKind) : Option Int → Option D
 | some y => some (.i k y)
 | none => none
def eqaO (neg : Bool) : Option (List D) → Option (List D) → List CK → Option V
 | some x, some y, ks => match eqDs ks x y with | some q => some (.d (.b (if neg then !q else q))) | none => none
 | _, _, _ => none
def eqaR (neg : Bool) : Option Bool → Option V
 | some q => some (.d (.b (if neg then !q else q)))
 | none => none
def andO : Option Bool → Option Bool → Option Bool
 | some a, some b => some (a && b)
 | _, _ => none
def keyO (n : Nat) : Option (List D) → Option (List D)
 | some kd => if kd.length = n then some kd else none
 | none => none
def lkA (ks : List CK) (ok : Bool) (z : V) (kvs : List (List D × V)) : Option (List D) → Option V
 | some kd => match mapAt ks kd kvs with | some n => some (got ok z kvs[n]?) | none => none
 | none => none
def lkB (ok : Bool) (z : V) (kvs : List (List D × V)) : Option Nat → Option V
 | some n => some (got ok z kvs[n]?)
 | none => none
def lkO (ag : Bool) (ks : List CK) (ok : Bool) (z k : V) : Option Obj → Option V
 | some (.map kvs) => lkA ks ok z kvs (keyD ag ks.length k)
 | _ => none
def putKv (kvs : List (List D × V)) (kd : List D) (v : V) (n : Nat) : List (List D × V) := if n < kvs.length then kvs.set n (kd, v) else kvs ++ [(kd, v)]
def muB (hp : List (Option Obj)) (id : Nat) (kvs : List (List D × V)) (kd : List D) (v : V) : Option Nat → Option (List (Option Obj))
 | some n => some (hp.set id (some (.map (putKv kvs kd v n))))
 | none => none
def muA (ks : List CK) (hp : List (Option Obj)) (id : Nat) (kvs : List (List D × V)) (v : V) : Option (List D) → Option (List (Option Obj))
 | some kd => muB hp id kvs kd v (mapAt ks kd kvs)
 | none => none
def muO (ag : Bool) (ks : List CK) (hp : List (Option Obj)) (id : Nat) (k v : V) : Option Obj → Option (List (Option Obj))
 | some (.map kvs) => muA ks hp id kvs v (keyD ag ks.length k)
 | _ => none
def delB (hp : List (Option Obj)) (id : Nat) (kvs : List (List D × V)) : Option Nat → Option (List (Option Obj))
 | some n => some (hp.set id (some (.map (kvs.eraseIdx n))))
 | none => none
def delA (ks : List CK) (hp : List (Option Obj)) (id : Nat) (kvs : List (List D × V)) : Option (List D) → Option (List (Option Obj))
 | some kd => delB hp id kvs (mapAt ks kd kvs)
 | none => none
def delO (ag : Bool) (ks : List CK) (hp : List (Option Obj)) (id : Nat) (k : V) : Option Obj → Option (List (Option Obj))
 | some (.map kvs) => delA ks hp id kvs (keyD ag ks.length k)
 | _ => none
def lenO : Option Obj → Option V
 | some (.map kvs) => some (.d (.i .i64 kvs.length))
 | _ => none
section
variable {hp : List (Option Obj)}
theorem lkF_map (ag : Bool) (ks : List CK) (ok : Bool) (z : V) (id : Nat) (k : V) : lkF ag ks ok z hp (.map id) k = lkO ag ks ok z k (objT hp id) := by
 simp only [lkF, mapIds, Qb, Qc]
 cases objT hp id with
 | none => rfl
 | some o =>
  cases o with
  | map kvs =>
   simp only [actLk, lkO]
   cases keyD ag ks.length k with
   | none => rfl
   | some kd => simp only [lkA]; cases mapAt ks kd kvs <;> rfl
  | _ => rfl
theorem lkF_nil (ag : Bool) (ks : List CK) (ok : Bool) (z : V) (k : V) : lkF ag ks ok z hp (.d .nm) k = lkA ks ok z [] (keyD ag ks.length k) := by
 simp only [lkF, mapIds, Qc, actLk]
 cases keyD ag ks.length k <;> rfl
theorem muF_map (ag : Bool) (ks : List CK) (id : Nat) (k v : V) : muF ag ks hp (.map id) k v = muO ag ks hp id k v (objT hp id) := by
 simp only [muF, mapIds, Qb, Qc]
 cases objT hp id with
 | none => rfl
 | some o =>
  cases o with
  | map kvs =>
   simp only [actMu, muO]
   cases keyD ag ks.length k with
   | none => rfl
   | some kd => simp only [muA]; cases mapAt ks kd kvs <;> rfl
  | _ => rfl
theorem delF_map (ag : Bool) (ks : List CK) (id : Nat) (k : V) : delF ag ks hp (.map id) k = delO ag ks hp id k (objT hp id) := by
 simp only [delF, mapIds, Qb, Qc]
 cases objT hp id with
 | none => rfl
 | some o =>
  cases o with
  | map kvs =>
   simp only [actDel, delO]
   cases keyD ag ks.length k with
   | none => rfl
   | some kd => simp only [delA]; cases mapAt ks kd kvs <;> rfl
  | _ => rfl
end
theorem evK :
  (∀ (k : Nat) (a c : List V), V.fine (.fn k a c) = (V.fineAll a && V.fineAll c)) ∧ (V.fineAll [] = true) ∧ (∀ (x : V) (r : List V), V.fineAll (x :: r) = (V.fine x && V.fineAll r)) ∧
  (∀ (i o : Nat), V.fine (.ptr i o) = true) ∧ (∀ (i : Nat), V.fine (.map i) = true) ∧ (∀ (x : D), V.fine (.d x) = true) ∧ (∀ (n k : Nat) (a c : List V), V.under n (.fn k a c) = (V.underAll n a && V.underAll n c)) ∧
  (∀ C K b r j tm hp es (d p k : Nat) (f c : List A), go C K b (⟨some d, .mkf k f c false, none, p⟩ :: r) j tm hp es = go C K b r j ((d, .fn k (evL tm f) (evL tm c)) :: tm) hp (⟨[], false, b + j, 0⟩ :: es)) ∧
  (∀ C K b r j tm hp es (d p k : Nat) (c : List A), go C K b (⟨some d, .mkf k [] c true, none, p⟩ :: r) j tm hp es = (nodupB (ptrIds (evL tm c)) = true ∧ goMkf C K b d k 0 r j tm hp es (evL tm c) (frzL (evL tm c) hp))) ∧
  (∀ C K b r j tm hp es (d k : Nat) (vs : List V) (c : List D) (os : List (Option Obj)), goMkf C K b d k 0 r j tm hp es vs (some (c, os)) = go C K b r j ((d, .d (.f k [] c)) :: tm) (setObjs hp (ptrIds vs) os) (⟨ptrIds vs, true, b + j, 0⟩ :: es)) ∧
  (∀ (hp : List (Option Obj)), frzL [] hp = some ([], [])) ∧
  (∀ (hp : List (Option Obj)) (id off : Nat) (vs : List V), frzL (.ptr id off :: vs) hp = frzP id off vs hp (objT hp id)) ∧
  (∀ (hp : List (Option Obj)) (x : D) (vs : List V), frzL (.d x :: vs) hp = frz3 (some x) (frzL vs hp)) ∧
  (∀ (hp : List (Option Obj)) (id off : Nat) (vs : List V) (cs : List V), frzP id off vs hp (some (.box cs)) = frz2 off (.box cs) (V.toDs cs) (frzL vs hp)) ∧
  (∀ (off : Nat) (o : Obj) (ds c : List D) (os : List (Option Obj)), frz2 off o (some ds) (some (c, os)) = some (.q ds off :: c, some (.cst ds) :: os)) ∧
  (∀ (x : D) (c : List D) (os : List (Option Obj)), frz3 (some x) (some (c, os)) = some (x :: c, os)) ∧
  (ptrIds [] = []) ∧ (∀ (id off : Nat) (r : List V), ptrIds (.ptr id off :: r) = id :: ptrIds r) ∧ (∀ (x : D) (r : List V), ptrIds (.d x :: r) = ptrIds r) ∧
  (nodupB [] = true) ∧ (∀ (x : Nat) (r : List Nat), nodupB (x :: r) = (!r.contains x && nodupB r)) ∧
  (∀ C K b r j tm hp es (d p : Nat), go C K b (⟨some d, .mkm, none, p⟩ :: r) j tm hp es = go C K b r (j + 1) ((d, .map (b + j)) :: tm) (hp.set (b + j) (some (.map []))) (⟨[], false, b + j, 1⟩ :: es)) ∧
  (∀ C K b r j tm hp es (d p : Nat) (ag : Bool) (ks : List CK) (ok : Bool) (z : V) (m k : A), go C K b (⟨some d, .lk ag ks ok z m k, none, p⟩ :: r) j tm hp es = goV C K b d r j tm hp es (mapIds (evT tm m)) (lkF ag ks ok z hp (evT tm m) (evT tm k))) ∧
  (∀ C K b r j tm hp es (dst : Option Nat) (p : Nat) (ag : Bool) (ks : List CK) (m k v : A), go C K b (⟨dst, .mu ag ks m k v, none, p⟩ :: r) j tm hp es = goH C K b dst r j tm es (mapIds (evT tm m)) (muF ag ks hp (evT tm m) (evT tm k) (evT tm v))) ∧
  (∀ C K b r j tm hp es (dst : Option Nat) (p : Nat) (ag : Bool) (ks : List CK) (m k : A), go C K b (⟨dst, .del ag ks m k, none, p⟩ :: r) j tm hp es = goH C K b dst r j tm es (mapIds (evT tm m)) (delF ag ks hp (evT tm m) (evT tm k))) ∧
  (∀ (id : Nat), mapIds (.map id) = [id]) ∧ (∀ (x : D), mapIds (.d x) = []) ∧
  (∀ (hp : List (Option Obj)) (ag : Bool) (ks : List CK) (ok : Bool) (z : V) (id : Nat) (k : V), lkF ag ks ok z hp (.map id) k = lkO ag ks ok z k (objT hp id)) ∧
  (∀ (hp : List (Option Obj)) (ag : Bool) (ks : List CK) (ok : Bool) (z k : V), lkF ag ks ok z hp (.d .nm) k = lkA ks ok z [] (keyD ag ks.length k)) ∧
  (∀ (ag : Bool) (ks : List CK) (ok : Bool) (z k : V) (kvs : List (List D × V)), lkO ag ks ok z k (some (.map kvs)) = lkA ks ok z kvs (keyD ag ks.length k)) ∧
  (∀ (ks : List CK) (ok : Bool) (z : V) (kvs : List (List D × V)) (kd : List D), lkA ks ok z kvs (some kd) = lkB ok z kvs (mapAt ks kd kvs)) ∧
  (∀ (ok : Bool) (z : V) (kvs : List (List D × V)) (n : Nat), lkB ok z kvs (some n) = some (got ok z kvs[n]?)) ∧
  (∀ (z : V) (p : List D × V), got true z (some p) = .tup [p.2, .d (.b true)]) ∧ (∀ (z : V) (p : List D × V), got false z (some p) = p.2) ∧
  (∀ (z : V), got true z none = .tup [z, .d (.b false)]) ∧ (∀ (z : V), got false z none = z) ∧
  (∀ (hp : List (Option Obj)) (ag : Bool) (ks : List CK) (id : Nat) (k v : V), muF ag ks hp (.map id) k v = muO ag ks hp id k v (objT hp id)) ∧
  (∀ (ag : Bool) (ks : List CK) (hp : List (Option Obj)) (id : Nat) (k v : V) (kvs : List (List D × V)), muO ag ks hp id k v (some (.map kvs)) = muA ks hp id kvs v (keyD ag ks.length k)) ∧
  (∀ (ks : List CK) (hp : List (Option Obj)) (id : Nat) (kvs : List (List D × V)) (v : V) (kd : List D), muA ks hp id kvs v (some kd) = muB hp id kvs kd v (mapAt ks kd kvs)) ∧
  (∀ (hp : List (Option Obj)) (id : Nat) (kvs : List (List D × V)) (kd : List D) (v : V) (n : Nat), muB hp id kvs kd v (some n) = some (hp.set id (some (.map (putKv kvs kd v n))))) ∧
  (∀ (hp : List (Option Obj)) (ag : Bool) (ks : List CK) (id : Nat) (k : V), delF ag ks hp (.map id) k = delO ag ks hp id k (objT hp id)) ∧
  (∀ (ag : Bool) (ks : List CK) (hp : List (Option Obj)) (id : Nat) (k : V) (kvs : List (List D × V)), delO ag ks hp id k (some (.map kvs)) = delA ks hp id kvs (keyD ag ks.length k)) ∧
  (∀ (ks : List CK) (hp : List (Option Obj)) (id : Nat) (kvs : List (List D × V)) (kd : List D), delA ks hp id kvs (some kd) = delB hp id kvs (mapAt ks kd kvs)) ∧
  (∀ (hp : List (Option Obj)) (id : Nat) (kvs : List (List D × V)) (n : Nat), delB hp id kvs (some n) = some (hp.set id (some (.map (kvs.eraseIdx n))))) ∧
  (∀ (n : Nat) (cs : List V), keyD true n (.agg cs) = keyO n (V.toDs cs)) ∧ (∀ (n : Nat) (x : D), keyD false n (.d x) = keyO n (some [x])) ∧
  (∀ (n : Nat) (kd : List D), keyO n (some kd) = if kd.length = n then some kd else none) ∧
  (∀ C K b r j tm hp es (d p : Nat) (x : A), go C K b (⟨some d, .len 2 x, none, p⟩ :: r) j tm hp es = goV C K b d r j tm hp es (mapIds (evT tm x)) (lenM hp (evT tm x))) ∧
  (∀ (hp : List (Option Obj)) (id : Nat), lenM hp (.map id) = lenO (objT hp id)) ∧ (∀ (kvs : List (List D × V)), lenO (some (.map kvs)) = some (.d (.i .i64 kvs.length))) ∧
  (∀ C K b r j tm hp es (d p : Nat) (neg : Bool) (x : A), go C K b (⟨some d, .nilm neg x, none, p⟩ :: r) j tm hp es = goV C K b d r j tm hp es [] (nilmV neg (evT tm x))) ∧
  (∀ (neg : Bool) (id : Nat), nilmV neg (.map id) = some (.d (.b (if neg then !false else false)))) ∧ (∀ (neg : Bool), nilmV neg (.d .nm) = some (.d (.b (if neg then !true else true)))) ∧
  (∀ C K b r j tm hp es (d p : Nat) (ks : List CK) (neg : Bool) (x y : A), go C K b (⟨some d, .eqa ks neg x y, none, p⟩ :: r) j tm hp es = goV C K b d r j tm hp es [] (eqaT ks neg (evT tm x) (evT tm y))) ∧
  (∀ (ks : List CK) (neg : Bool) (x y : List V), eqaT ks neg (.agg x) (.agg y) = eqaO neg (V.toDs x) (V.toDs y) ks) ∧
  (∀ (neg : Bool) (x y : List D) (ks : List CK), eqaO neg (some x) (some y) ks = eqaR neg (eqDs ks x y)) ∧
  (∀ (neg q : Bool), eqaR neg (some q) = some (.d (.b (if neg then !q else q)))) ∧
  (eqDs [] [] [] = some true) ∧ (∀ (k : CK) (ks : List CK) (x y : D) (xs ys : List D), eqDs (k :: ks) (x :: xs) (y :: ys) = andO (eqD k x y) (eqDs ks xs ys)) ∧
  (∀ (a b : Bool), andO (some a) (some b) = some (a && b)) ∧
  (∀ (k : IntKind) (x y : Int), eqD .i (.i k x) (.i k y) = some (x == y)) ∧ (∀ (x y : List UInt8), eqD .s (.s x) (.s y) = some (x == y)) ∧ (∀ (x y : Bool), eqD .b (.b x) (.b y) = some (x == y)) ∧
  (∀ C K b r j tm hp es (d p : Nat) (ag : Bool) (len sz : Nat) (x y : A), go C K b (⟨some d, .ixa ag len sz x y, none, p⟩ :: r) j tm hp es = goV C K b d r j tm hp es [] (ixaT ag len sz (evT tm x) (evT tm y))) ∧
  (∀ (ag : Bool) (len sz : Nat) (cs : List V) (k : IntKind) (i : Int), ixaT ag len sz (.agg cs) (.d (.i k i)) = if 0 ≤ i ∧ i < len then asO ag sz (takeV cs (i.toNat * sz) sz) else none) ∧
  (∀ C K b r j tm hp es (d p : Nat) (len sz : Nat) (x y : A), go C K b (⟨some d, .iaa len sz x y, none, p⟩ :: r) j tm hp es = goV C K b d r j tm hp es [] (iaaT len sz (evT tm x) (evT tm y))) ∧
  (∀ (len sz id o : Nat) (k : IntKind) (i : Int), iaaT len sz (.ptr id o) (.d (.i k i)) = if 0 ≤ i ∧ i < len then some (.ptr id (o + i.toNat * sz)) else none) ∧
  (∀ (len sz o : Nat) (ds : List D) (k : IntKind) (i : Int), iaaT len sz (.d (.q ds o)) (.d (.i k i)) = if 0 ≤ i ∧ i < len then some (.d (.q ds (o + i.toNat * sz))) else none) ∧
  (∀ C K b r j tm hp es (d p : Nat) (mx : Bool) (xs : List A), go C K b (⟨some d, .mm mx xs, none, p⟩ :: r) j tm hp es = goV C K b d r j tm hp es [] (oD (maxInt mx (evL tm xs)))) ∧
  (∀ (mx : Bool) (k : IntKind) (x : Int) (r : List V), maxInt mx (.d (.i k x) :: r) = foldO k (foldI mx k x r)) ∧
  (∀ (k : IntKind) (x : Int), foldO k (some x) = some (.i k x)) ∧ (∀ (mx : Bool) (k : IntKind) (x : Int), foldI mx k x [] = some x) ∧
  (∀ (k : IntKind) (x y : Int) (r : List V), foldI true k x (.d (.i k y) :: r) = foldI true k (if y > x then y else x) r) ∧
  (∀ (k : IntKind) (x y : Int) (r : List V), foldI false k x (.d (.i k y) :: r) = foldI false k (if y < x then y else x) r) ∧
  (∀ C K b r j tm hp es (d p sz n : Nat) (z : List D) (ps : List (Nat × A)), go C K b (⟨some d, .bsa sz n z ps, none, p⟩ :: r) j tm hp es = goR C K b d sz n r j tm hp es (fillA sz (List.replicate n (ofDs z)) (evI tm ps))) ∧
  (∀ C K b r j tm hp es (d sz n : Nat) (xs : List (List V)), goR C K b d sz n r j tm hp es (some xs) = go C K b r (j + 1) ((d, .arr (b + j) 0 0 n) :: tm) (hp.set (b + j) (some (.arr 0 sz xs))) (⟨[], false, b + j, 1⟩ :: es)) ∧
  (∀ (sz : Nat) (xs : List (List V)), fillA sz xs [] = some xs) ∧
  (∀ (sz : Nat) (xs : List (List V)) (i : Nat) (x : V) (r : List (Nat × V)), fillA sz xs ((i, x) :: r) = fillA1 sz xs i r x.cel) ∧
  (∀ (sz : Nat) (xs : List (List V)) (i : Nat) (r : List (Nat × V)) (c : List V), fillA1 sz xs i r (some c) = if c.length = sz ∧ i < xs.length then fillA sz (xs.set i c) r else none) ∧
  (∀ C K b r j tm hp es (d p sz bytes : Nat) (x y : A), go C K b (⟨some d, .apa sz bytes x y, none, p⟩ :: r) j tm hp es = goAp C K b d sz bytes r j tm hp es (evT tm x) (evT tm y) (apaY sz hp (evT tm y))) ∧
  (∀ C K b r j tm hp es (dst : Option Nat) (p key : Nat) (as : List A), go C K b (⟨dst, .lend key as, none, p⟩ :: r) j tm hp es = goLend C K b dst key r j tm hp es (V.handAll (evL tm as))) ∧
  (∀ C K b r j tm hp es (dst : Option Nat) (p key res : Nat) (as : List A), go C K b (⟨dst, .callr key as res, none, p⟩ :: r) j tm hp es = goCall C K b dst res r j tm hp es (ent1 C (objT hp) key res (b + j) (V.rawAll (evL tm as)))) ∧
  (∀ (E : Nat → Option Fn) (Q : Ex → St → Prop) (ann : Ann) (c : CCode) (s : St), WX E (.loop ann c) s Q = LX E c ann (enter ann s).heap.length (enter ann s) Q) ∧
  (∀ (E : Nat → Option Fn) (Q : Ex → St → Prop) (own : List (Nat × Nat)) (f : A) (key res : Nat) (ks : List Nat) (s : St), WX E (.range own f key ks res) s Q = rg0 (lcall E) Q f key res ks (boxesR own s)) := by
 refine ⟨by intros; rw [V.fine], by rw [V.fineAll], by intros; rw [V.fineAll], by intros; rw [V.fine] <;> simp, by intros; rw [V.fine] <;> simp, by intros; rw [V.fine] <;> simp, by intros; rw [V.under], ?_, ?_, ?_, ?_, ?_, ?_, ?_, ?_, ?_, rfl, ?_, ?_, rfl, ?_, ?_, ?_, ?_, ?_, ?_, ?_, ?_, ?_, ?_, ?_, ?_, ?_, ?_, ?_, ?_, ?_, ?_, ?_, ?_, ?_, ?_, ?_, ?_, ?_, ?_, ?_, ?_, ?_, ?_, ?_, ?_, ?_, ?_, ?_, ?_, ?_, rfl, ?_, ?_, ?_, ?_, ?_, ?_, ?_, ?_, ?_, ?_, ?_, ?_, ?_, ?_, ?_, ?_, ?_, ?_, ?_, ?_, ?_, ?_, ?_, ?_, ?_, ?_⟩
 all_goals first
  | (intros; rfl)
  | (intros; exact go_mkf ..)
  | (intros; exact go_mkfT ..)
  | (intros; exact frzL_ptr ..)
  | (intros; exact frzL_d ..)
  | (intros; exact go_mkm ..)
  | (intros; exact go_lk ..)
  | (intros; exact go_mu ..)
  | (intros; exact go_del ..)
  | (intros; exact lkF_map ..)
  | (intros; exact lkF_nil ..)
  | (intros; exact muF_map ..)
  | (intros; exact delF_map ..)
  | (intros; exact go_len2 ..)
  | (intros; exact go_nilm ..)
  | (intros; exact go_eqa ..)
  | (intros; exact go_ixa ..)
  | (intros; exact go_iaa ..)
  | (intros; exact go_mm ..)
  | (intros; exact go_bsa ..)
  | (intros; exact fillA_cons ..)
  | (intros; exact go_apa ..)
  | (intros; exact go_lend ..)
  | (intros; exact go_callr ..)
  | (intros; exact wq_range ..)
  | skip
 ·intro ks neg x y
  simp only [eqaT]
  cases V.toDs x with
  | none => rfl
  | some a => cases V.toDs y <;> rfl
 ·intro k x y; simp only [eqD, if_true]
 ·intro k x y r; simp only [foldI, if_true]
 ·intro k x y r; simp only [foldI, if_true]; rfl
open Go
def byteRow (l : List UInt8) : List (List D) := l.map fun c => [.i .u8 c.toNat]
theorem lit_u8 {n : Int} (h : (Lit.int .u8 n).wf = true) : ∃ c : UInt8, n = c.toNat := by
 simp only [Lit.wf, Qi, IntKind.min, IntKind.max, IntKind.signed, IntKind.bits] at h
 refine ⟨UInt8.ofNat n.toNat, ?_⟩
 rw [UInt8.toNat_ofNat']
 simp at h
 omega
theorem lit_u16 {n : Int} (h : (Lit.int .u16 n).wf = true) : 0 ≤ n ∧ n ≤ 65535 := by
 simp only [Lit.wf, Qi, IntKind.min, IntKind.max, IntKind.signed, IntKind.bits] at h
 simp at h
 omega
section
variable {P : Program}
theorem ty_bytes {t e : TypeId} (hu : P.underlying t = some (.slice e)) (he : P.underlying e = some (.int .u8)) (hc : P.cellsOf e = 1) : ∀ {f : Nat} {ds : List D}, tyD P f t ds → ∃ l, ds = [.l 1 (byteRow l)]
 | 0, ds, h => h.elim
 | f + 1, ds, h => by
  simp only [tyD, hu, hc] at h
  obtain ⟨xs, rfl, _, h3⟩ := h
  have : ∀ (xs : List (List D)), (∀ r ∈ xs, r.length = 1 ∧ tyD P f e r) → ∃ l, xs = byteRow l := by
   intro xs
   induction xs with
   | nil => intro _; exact ⟨[], rfl⟩
   | cons r rs ih =>
    intro h
    obtain ⟨l, rfl⟩ := ih (fun r hr => h r (by simp [hr]))
    obtain ⟨_, h1⟩ := h r (by simp)
    cases f with
    | zero => exact h1.elim
    | succ f =>
     simp only [tyD, he] at h1
     obtain ⟨n, rfl, hw⟩ := h1
     obtain ⟨c, rfl⟩ := lit_u8 hw
     exact ⟨c :: l, rfl⟩
  obtain ⟨l, rfl⟩ := this xs h3
  exact ⟨l, rfl⟩
theorem ty_str {t : TypeId} (hu : P.underlying t = some .string) : ∀ {f : Nat} {ds : List D}, tyD P f t ds → ∃ x : List UInt8, ds = [.s x]
 | 0, ds, h => h.elim
 | f + 1, ds, h => by
  simp only [tyD, hu] at h
  obtain ⟨x, rfl, _⟩ := h
  exact ⟨x, rfl⟩
theorem ty_u16 {t : TypeId} (hu : P.underlying t = some (.int .u16)) : ∀ {f : Nat} {ds : List D}, tyD P f t ds → ∃ n : Int, ds = [.i .u16 n] ∧ 0 ≤ n ∧ n ≤ 65535
 | 0, ds, h => h.elim
 | f + 1, ds, h => by
  simp only [tyD, hu] at h
  obtain ⟨n, rfl, hw⟩ := h
  exact ⟨n, rfl, lit_u16 hw⟩
end
end Ab
