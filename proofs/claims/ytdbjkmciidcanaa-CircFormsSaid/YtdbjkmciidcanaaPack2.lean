/-
 Each operation of the interpreter is the model's: maps, made, asked, turned.
-/
import Derived.Test.YtdbjkmciidcanaaPack1
import Derived.Orders
import Derived.OrdersIn
import Derived.CallsIn
set_option linter.unusedSimpArgs false
set_option linter.unusedVariables false
set_option linter.unusedSectionVars false
set_option linter.unnecessarySimpa false
namespace Ab
open Go
open Go.RowKit (Below)
section
variable {P : Program} {tab : Tab} {o : Oper}
theorem ok_mkm {t k e : TypeId} (ho : o.op = .makeMap t none) : OkOp P tab o .mkm := by
 intro nt g get obj a w hR fresh r hf h K Q hK
 simp only [act, Qa] at h
 subst h
 have hrun : (execOp a.eval o).run P w = .ok (.value (.map (some w.heap.size))) (w.alloc (.map #[] 0)) := by
  simp [execOp, ho, Instr.makeMap]
 have hsz : (w.alloc (.map #[] 0)).heap.size = w.heap.size + 1 := Array.size_push ..
 have hno : ∀ b q, owns ⟨updP g.at_ fresh ⟨w.heap.size, 0, 0⟩, g.im⟩ (updO obj fresh (some (.map []))) fresh b q → b = w.heap.size := fun b q h => by
  unfold owns at h; simp only [updO_same, updP_same] at h; exact h
 obtain ⟨h1, h2, h3⟩ := step1 (w' := w.alloc (.map #[] 0)) hR.heap fresh (.map []) ⟨w.heap.size, 0, 0⟩ g.im rfl rfl rfl (by omega)
  (fun b hb => .inl (by show (w.heap.push _)[b]? = _; rw [Array.getElem?_push, if_neg (by omega)]))
  (fun b q h => h) (fun b q h => .inl h)
  (fun b q h => by
   have := hno b q h
   subst this
   exact ⟨.inr ⟨Nat.le_refl _, by omega⟩, fun h => by have := hR.heap.imOld _ _ h; omega⟩)
  (fun b q h hm => by simp [Obj.isMap] at hm)
  (.fresh hf _ _ _)
  (fun _ => ⟨#[], 0, by show (w.heap.push _)[w.heap.size]? = _; simp, [], .refl _, .nil, by simp, .nil, by simp [EList]⟩)
 refine wp_value hrun (hK ⟨updP g.at_ fresh ⟨w.heap.size, 0, 0⟩, g.im⟩ _ _ ⟨h1, h2, h3⟩ ?_)
 simp only [resO, Cop.wr, VRel, updO_same, updP_same, Qm, if_false]
 exact ⟨.inl ⟨[], rfl⟩, trivial⟩
theorem keyK_flat {kt : TypeId} {ks : List CK} (hk : keyK P kt = some ks) : flatK P 20 kt = some ks := by
 unfold keyK at hk; split at hk
 ·cases hk
 ·exact hk
theorem key_arg {g : Gh} {obj : Nat → Option Obj} {w : World} {kt : TypeId} {ks : List CK} (hk : keyK P kt = some ks) {x : V} {kd : List D} (h : keyD (isAggT P kt) ks.length x = some kd) {v : Value} (hx : VRel tab g obj w x v) :
  ∃ us, DList tab g.im w kd us ∧ us.length = P.cellsOf kt ∧ v = varOf (isAggT P kt) us ∧ (∀ c, kd = [c] → v.cells.toList = us ∧ us = [v]) ∧ v.cells.toList = us := by
 obtain ⟨⟨h1, h2, h3⟩, hkl⟩ := flatK_ok (keyK_flat hk)
 unfold keyD at h
 split at h
 ·rename_i hok
  split at h
  ·rename_i kd' hd
   split at h
   ·rename_i hl
    simp only [Qa] at h
    subst h
    have hc := cel_rel (toDs_cel hd) hx
    have hdl : DList tab g.im w kd' v.cells.toList := toDs_rel hd hc.toV
    have hlen : v.cells.toList.length = P.cellsOf kt := by rw [hdl.length, hl, hkl]
    cases ha : isAggT P kt with
    | true =>
     rw [ha] at hok
     cases x with
     | agg cs =>
      simp only [VRel] at hx
      obtain ⟨vs, rfl, _⟩ := hx
      refine ⟨_, hdl, hlen, by simp [varOf, Value.cells], fun c e => ?_, rfl⟩
      exfalso
      unfold keyK at hk
      split at hk
      ·cases hk
      ·rename_i hn
       exact hn ⟨ha, by rw [← hlen, hdl.length, e]; rfl⟩
     | _ => simp [okKey] at hok
    | false =>
     have ho : v.oneCell' = true := by
      rw [ha] at hok
      refine hx.scalar (fun cs e => by subst e; simp [okKey] at hok) (fun cs e => by subst e; simp [V.cells, V.toDs, V.toD] at hd) (fun e => by subst e; simp [V.cells, V.toDs, V.toD] at hd)
     have hcells : v.cells.toList = [v] := by cases v <;> simp_all [Value.cells, Value.oneCell']
     refine ⟨_, hdl, hlen, by simp [varOf, hcells], fun c _ => ⟨rfl, hcells⟩, rfl⟩
   ·cases h
  ·cases h
 ·cases h
theorem lk_sound {g : Gh} {obj : Nat → Option Obj} {w : World} (hH : HRel tab g obj w) {kt : TypeId} {ks : List CK} (hk : keyK P kt = some ks) {id : Nat} {kvs : List (List D × V)} (ho : obj id = some (.map kvs) ∨ obj id = some (.cmap kvs)) {kd : List D} {us : List Value} (hd : DList tab g.im w kd us) (hl : us.length = P.cellsOf kt) {n : Nat} (hm : mapAt ks kd kvs = some n) (em : Array MapEntry → Bool) :
  ∃ es clock kv m, w.heap[(g.at_ id).blk]? = some (.map es clock) ∧ (kv.Perm kvs ∧ Keys (kv.map (·.1)) ∧ (∀ e ∈ es.toList, e.born < clock) ∧ (es.toList.map (·.born)).Nodup ∧ EList tab g obj w kv es.toList) ∧ (Instr.checkKey (em es) 10000 kt (varOf (isAggT P kt) us)).run P w = .ok () w ∧
   (Instr.findKey kt (varOf (isAggT P kt) us) es.toList).run P w = .ok ((es[m]?).map fun e => (m, e.val)) w ∧ (m ≤ kv.length ∧ kv[m]? = kvs[n]? ∧ n ≤ kvs.length ∧ (n < kvs.length ↔ m < kv.length) ∧ (m < kv.length → ∃ x, kv[m]? = some (kd, x)) ∧ (m = kv.length → ∀ p ∈ kv, eqDs ks kd p.1 = some false) ∧ mapAt ks kd kv = some m) ∧ (m < kv.length → ∃ e, es[m]? = some e ∧ e.key = varOf (isAggT P kt) us) := by
 obtain ⟨es, clock, h1, kv, q1, q2, q3, q4, h2⟩ := hH.map ho
 have hflat : flatK P 20 kt = some ks := by
  unfold keyK at hk; split at hk
  ·cases hk
  ·exact hk
 obtain ⟨p1, m, p2, p3, p4, p5, p6, p7⟩ := mapAt_perm q1 q2 hm
 obtain ⟨k1, k2, k3⟩ := find_sound (P := P) hk hd h2 p2
 refine ⟨es, clock, kv, m, h1, ⟨q1, q2, q3, q4, h2⟩, check_flat (em es) 20 kt ks hflat 10000 (by omega) us hl, by simpa using k1, ⟨p3, p4, p1, p5, p6, p7, p2⟩, fun hn => ?_⟩
 obtain ⟨e, m1, m2, _⟩ := k3 hn
 exact ⟨e, by simpa using m1, m2⟩
theorem EList.val {g : Gh} {obj : Nat → Option Obj} {w : World} : ∀ {kvs : List (List D × V)} {es : List MapEntry}, EList tab g obj w kvs es → ∀ {n : Nat} {p : List D × V}, kvs[n]? = some p → ∃ e, es[n]? = some e ∧ VRel tab g obj w p.2 e.val
 | (k, x) :: r, e :: es, h, 0, p, hp => by simp only [EList] at h; simp at hp; subst hp; exact ⟨e, rfl, h.2.1⟩
 | (k, x) :: r, e :: es, h, n + 1, p, hp => by simp only [EList] at h; simpa using EList.val h.2.2 (n := n) (by simpa using hp)
 | [], _, _, _, _, hp => by simp at hp
 | (_, _) :: _, [], h, _, _, _ => by simp only [EList] at h
def gotV (ok : Bool) (z : Value) : Option MapEntry → Value
 | some e => if ok then .tuple #[e.val, .bool true] else e.val
 | none => if ok then .tuple #[z, .bool false] else z
theorem got_rel {g : Gh} {obj : Nat → Option Obj} {w : World} {ok : Bool} {zero : V} {z : Value} (hz : VRel tab g obj w zero z) {p : Option (List D × V)} {e : Option MapEntry} (h : (p = none ∧ e = none) ∨ ∃ p' e', p = some p' ∧ e = some e' ∧ VRel tab g obj w p'.2 e'.val) :
  VRel tab g obj w (got ok zero p) (gotV ok z e) := by
 rcases h with ⟨rfl, rfl⟩ | ⟨p, e, rfl, rfl, h⟩
 ·cases ok
  ·exact hz
  ·simp only [got, gotV, if_true, VRel]
   exact ⟨[z, .bool false], rfl, by simp only [VList, VRel, DRel]; exact ⟨hz, trivial, trivial⟩⟩
 ·cases ok
  ·exact h
  ·simp only [got, gotV, if_true, VRel]
   exact ⟨[e.val, .bool true], rfl, by simp only [VList, VRel, DRel]; exact ⟨h, trivial, trivial⟩⟩
theorem ok_lk {t kt et : TypeId} {m k : Operand} {ok : Bool} {ks : List CK} {z : V} {cop : Cop} (ho : o.op = .lookup t m k ok) (ht : P.underlying t = some (.map kt et)) (hz : zeroOf P et = some z) (hk : keyK P kt = some ks)
  (hc : bi2 P tab (some t) (some kt) m k (.lk (isAggT P kt) ks ok z) = some cop) : OkOp P tab o cop := by
 obtain ⟨a', b', ha, hb, rfl⟩ := bi2_rel hc
 intro nt g get obj a w hR fresh r hf h K Q hK
 have hx := compA_rel (w := w) ha hR.tmp
 have hy := compA_rel (w := w) hb hR.tmp
 have hres : ∀ v os, resO obj (Cop.wr (.lk (isAggT P kt) ks ok z a' b')) (Cop.ids (.lk (isAggT P kt) ks ok z a' b') ((Cop.args (.lk (isAggT P kt) ks ok z a' b')).map (evA get))) ⟨v, os, none⟩ fresh = obj := fun v os => resO_same rfl
 obtain ⟨i, z0, hi, hiz, _, _, _, hzr⟩ := zeroOf_rel (tab := tab) hz g obj w
 simp only [Cop.args, Qb, Qc, act, optV] at h hK hres
 generalize evA get a' = xv at h hx hK hres
 generalize evA get b' = yv at h hy hK hres
 split at h
 ·rename_i v hv
  simp only [Qa] at h
  subst h
  rw [hres] at hK
  cases xv with
  | map id =>
   simp only [Cop.ids, Qb, Qc] at hv
   simp only [VRel] at hx
   obtain ⟨hm, hxv⟩ := hx
   obtain ⟨kvs, hobj, hv⟩ : ∃ kvs, (obj id = some (.map kvs) ∨ obj id = some (.cmap kvs)) ∧ (match keyD (isAggT P kt) ks.length yv with
     | some kd => match mapAt ks kd kvs with
      | some n => some (got ok z kvs[n]?)
      | none => none
     | none => none) = some v := by
    rcases hm with ⟨kvs, hm⟩ | ⟨kvs, hm⟩
    ·simp only [actLk, hm] at hv; exact ⟨kvs, .inl hm, hv⟩
    ·simp only [actLk, hm] at hv; exact ⟨kvs, .inr hm, hv⟩
   split at hv
   ·rename_i kd hkd
    split at hv
    ·rename_i n hn
     simp only [Qa] at hv
     subst hv
     obtain ⟨us, m1, m2, m3, _⟩ := key_arg hk hkd hy
     obtain ⟨es, clock, kv, mi, e1, ⟨_, _, _, _, e2⟩, e3, e4, ⟨f1, f2, _⟩, e6⟩ := lk_sound (P := P) hR.heap hk hobj m1 m2 hn (fun es => es.isEmpty)
     have hg : (getObj (g.at_ id).blk).run P w = .ok (.map es clock) w := MapKept.run_getObj_map e1
     refine wp_value (v := gotV ok z0 es[mi]?) (w' := w) ?_ (hK g _ w (.refl hR.heap) (got_rel hzr ?_))
     ·simp only [execOp, ho, hxv, m3, Instr.lookup, Sem.run_bind, run_underlying ht, Result.andThen_ok, hg, Sem.run_pure, e3, e4]
      cases hes : es[mi]? with
      | none => cases ok <;> simp [gotV, zeroValue, typeInfo, hi, hiz]
      | some e => cases ok <;> simp [gotV]
     ·have hl := e2.at_
      rw [← f2]
      cases hp : kv[mi]? with
      | none =>
       have : es[mi]? = none := by
        rw [Array.getElem?_eq_none_iff]
        have := List.getElem?_eq_none_iff.1 hp
        simp at hl; omega
       exact .inl ⟨rfl, this⟩
      | some p =>
       obtain ⟨e, n1, n2⟩ := e2.val hp
       have : es[mi]? = some e := by simpa using n1
       exact .inr ⟨p, e, rfl, this, n2⟩
    ·cases hv
   ·cases hv
  | d x =>
   cases x with
   | nm =>
    simp only [Cop.ids, Qc, actLk] at hv
    simp only [VRel, DRel] at hx
    split at hv
    ·rename_i kd hkd
     simp only [Qa] at hv
     subst hv
     obtain ⟨us, m1, m2, m3, _⟩ := key_arg hk hkd hy
     have e3 := check_flat (P := P) (w := w) true 20 kt ks (keyK_flat hk) 10000 (by omega) us m2
     have e4 : (Instr.findKey kt (varOf (isAggT P kt) us) []).run P w = .ok none w := by
      have := (find_sound (P := P) (tab := tab) (g := g) (obj := obj) (w := w) hk m1 (kvs := []) (es := []) (n := 0) (by simp [EList]) rfl).1
      simpa using this
     refine wp_value (v := gotV ok z0 none) (w' := w) ?_ (hK g _ w (.refl hR.heap) (got_rel hzr (.inl ⟨rfl, rfl⟩)))
     simp only [execOp, ho, hx, m3, Instr.lookup, Sem.run_bind, run_underlying ht, Result.andThen_ok, Sem.run_pure, List.isEmpty_toArray, List.isEmpty_nil, e3, e4]
     cases ok <;> simp [gotV, zeroValue, typeInfo, hi, hiz]
    ·cases hv
   | _ => simp [actLk, Cop.ids] at hv
  | _ => simp [actLk, Cop.ids] at hv
 ·cases h
theorem EList.set {g : Gh} {obj : Nat → Option Obj} {w : World} {kd : List D} {v : V} {e0 : MapEntry} (h0 : (∃ ks, DList tab g.im w kd ks ∧ e0.key.cells.toList = ks ∧ (∀ c, kd = [c] → ks = [e0.key])) ∧ VRel tab g obj w v e0.val) :
  ∀ {kvs : List (List D × V)} {es : List MapEntry} (n : Nat), EList tab g obj w kvs es → EList tab g obj w (kvs.set n (kd, v)) (es.set n e0)
 | [], [], n, h => by simpa using h
 | (k, x) :: r, e :: es, 0, h => by simp only [EList] at h; simp only [List.set_cons_zero, EList]; exact ⟨h0.1, h0.2, h.2.2⟩
 | (k, x) :: r, e :: es, n + 1, h => by simp only [EList] at h; simp only [List.set_cons_succ, EList]; exact ⟨h.1, h.2.1, EList.set h0 n h.2.2⟩
 | [], _ :: _, _, h => by simp only [EList] at h
 | (_, _) :: _, [], _, h => by simp only [EList] at h
theorem EList.push {g : Gh} {obj : Nat → Option Obj} {w : World} {kd : List D} {v : V} {e0 : MapEntry} (h0 : (∃ ks, DList tab g.im w kd ks ∧ e0.key.cells.toList = ks ∧ (∀ c, kd = [c] → ks = [e0.key])) ∧ VRel tab g obj w v e0.val) :
  ∀ {kvs : List (List D × V)} {es : List MapEntry}, EList tab g obj w kvs es → EList tab g obj w (kvs ++ [(kd, v)]) (es ++ [e0])
 | [], [], h => by simp only [List.nil_append, EList]; exact ⟨h0.1, h0.2, trivial⟩
 | (k, x) :: r, e :: es, h => by simp only [EList] at h; simp only [List.cons_append, EList]; exact ⟨h.1, h.2.1, EList.push h0 h.2.2⟩
 | [], _ :: _, h => by simp only [EList] at h
 | (_, _) :: _, [], h => by simp only [EList] at h
theorem EList.erase {g : Gh} {obj : Nat → Option Obj} {w : World} : ∀ {kvs : List (List D × V)} {es : List MapEntry} (n : Nat), EList tab g obj w kvs es → EList tab g obj w (kvs.eraseIdx n) (es.eraseIdx n)
 | [], [], n, h => by simpa using h
 | (k, x) :: r, e :: es, 0, h => by simp only [EList] at h; simpa using h.2.2
 | (k, x) :: r, e :: es, n + 1, h => by simp only [EList] at h; simp only [List.eraseIdx_cons_succ, EList]; exact ⟨h.1, h.2.1, EList.erase n h.2.2⟩
 | [], _ :: _, _, h => by simp only [EList] at h
 | (_, _) :: _, [], _, h => by simp only [EList] at h
theorem post_map {g : Gh} {obj : Nat → Option Obj} {w : World} (hH : HRel tab g obj w) {id : Nat} {kvs kvs' : List (List D × V)} (ho : obj id = some (.map kvs)) {es es' : Array MapEntry} {cl cl' : Nat} (hb : w.heap[(g.at_ id).blk]? = some (.map es cl))
  (hE : MRel tab g obj w kvs' es'.toList cl') :
  Post tab g obj w g (updO obj id (some (.map kvs'))) { w with heap := w.heap.setIfInBounds (g.at_ id).blk (.map es' cl') } := by
 have hat : updP g.at_ id (g.at_ id) = g.at_ := by funext j; unfold updP; split <;> simp_all
 have howns : ∀ b q, owns ⟨updP g.at_ id (g.at_ id), g.im⟩ (updO obj id (some (.map kvs'))) id b q → owns g obj id b q := fun b q h => by
  unfold owns at *
  simp only [updO_same, updP_same] at h
  rw [ho]; exact h
 have hlt : (g.at_ id).blk < w.heap.size := by
  rcases Qn (g.at_ id).blk w.heap.size with h | h
  ·exact h
  ·rw [Array.getElem?_eq_none h] at hb; cases hb
 obtain ⟨h1, h2, h3⟩ := step1 (w' := { w with heap := w.heap.setIfInBounds (g.at_ id).blk (.map es' cl') }) hH id (.map kvs') (g.at_ id) g.im rfl rfl rfl (by simp)
  (fun b hb' => by
   by_cases e : b = (g.at_ id).blk
   ·subst e
    refine Or.inr (Or.inr (Or.inl ⟨es, cl, es', cl', hb, by simp [hlt], fun o => ?_⟩))
    unfold owns; rw [ho]
   ·refine .inl ?_
    show (w.heap.setIfInBounds _ _)[b]? = _
    rw [Array.getElem?_setIfInBounds_ne (fun h => e h.symm)])
  (fun b q h => h) (fun b q h => .inl h)
  (fun b q h => ⟨.inl (howns b q h), hH.imm id b q (howns b q h)⟩)
  (fun b q h hm => by simp [Obj.isMap] at hm)
  (by
   intro j
   by_cases e : j = id
   ·subst e; rw [ho]; exact ⟨.inl ⟨kvs', updO_same _ _ _⟩, updP_same _ _ _⟩
   ·have := OEvo.refl g obj j
    rw [updO_ne _ _ e, show (⟨updP g.at_ id (g.at_ id), g.im⟩ : Gh).at_ j = g.at_ j from updP_ne _ _ e]
    exact this)
  (fun hv => by
   refine ⟨es', cl', by simp [hlt], ?_⟩
   have cellI : ∀ b o, g.im b o → ({ w with heap := w.heap.setIfInBounds (g.at_ id).blk (.map es' cl') } : World).cell? (cellAt b o) = w.cell? (cellAt b o) := fun b o hi => by
    have hne : b ≠ (g.at_ id).blk := fun e => hH.imm id b o (by unfold owns; rw [ho]; exact e) hi
    refine World.cell?_of_block (w := w) (a := cellAt b o) ?_
    show (w.heap.setIfInBounds _ _)[b]? = _
    rw [Array.getElem?_setIfInBounds_ne (fun h => hne h.symm)]
   have : ∀ {kvs : List (List D × V)} {es : List MapEntry}, EList tab g obj w kvs es → EList tab ⟨updP g.at_ id (g.at_ id), g.im⟩ (updO obj id (some (.map kvs'))) { w with heap := w.heap.setIfInBounds (g.at_ id).blk (.map es' cl') } kvs es := by
    intro kvs
    induction kvs with
    | nil => intro es h; cases es with | nil => simp only [EList] | cons => simp only [EList] at h
    | cons p kvs ih =>
     intro es h
     cases es with
     | nil => simp only [EList] at h
     | cons e es =>
      simp only [EList] at h ⊢
      obtain ⟨⟨us, k1, k2, k3⟩, k4, k5⟩ := h
      exact ⟨⟨us, DList.mono (fun _ _ h => h) cellI _ _ k1, k2, k3⟩, hv _ _ k4, ih k5⟩
   obtain ⟨kv, x1, x2, x3, x4, x5⟩ := hE
   exact ⟨kv, x1, x2, x3, x4, this x5⟩)
 rw [hat] at h1 h2 h3
 exact ⟨h1, h2, h3⟩
theorem ok_mu {t kt et : TypeId} {m k x : Operand} {ks : List CK} {m' k' x' : A} (ho : o.op = .mapUpdate t m k x ∨ o.op = .insert t m k x) (ht : P.underlying t = some (.map kt et)) (hk : keyK P kt = some ks)
  (hm : compA P tab (some t) m = some m') (hk' : compA P tab (some kt) k = some k') (hx' : compA P tab (some et) x = some x') : OkOp P tab o (.mu (isAggT P kt) ks m' k' x') := by
 intro nt g get obj a w hR fresh r hf h K Q hK
 have hx := compA_rel (w := w) hm hR.tmp
 have hy := compA_rel (w := w) hk' hR.tmp
 have hz := compA_rel (w := w) hx' hR.tmp
 simp only [Cop.args, Qb, Qc, act] at h hK
 generalize evA get m' = xv at h hx hK
 generalize evA get k' = yv at h hy hK
 generalize evA get x' = zv at h hz hK
 split at h
 ·rename_i os' hv
  simp only [Qa] at h
  subst h
  cases xv with
  | map id =>
   simp only [Cop.ids, Qb, Qc] at hv hK
   simp only [VRel] at hx
   obtain ⟨hm, hxv⟩ := hx
   obtain ⟨kvs, hobj⟩ : ∃ kvs, obj id = some (.map kvs) := by
    rcases hm with hm | ⟨kvs, hm⟩
    ·exact hm
    ·simp [actMu, hm] at hv
   simp only [actMu, hobj] at hv
   split at hv
   ·rename_i kd hkd
    split at hv
    ·rename_i n hn
     simp only [Qa] at hv
     subst hv
     obtain ⟨us, m1, m2, m3, m4, m5⟩ := key_arg hk hkd hy
     obtain ⟨es, clock, kv, mi, e1, ⟨q1, q2, q3, q4, e2⟩, e3, e4, ⟨f1, f2, f3, f4, f5, f6, f7⟩, e6⟩ := lk_sound (P := P) hR.heap hk (.inl hobj) m1 m2 hn (fun es => false)
     have hl := e2.at_
     simp only [Array.length_toList] at hl
     have hg : (getObj (g.at_ id).blk).run P w = .ok (.map es clock) w := MapKept.run_getObj_map e1
     have hset : ∀ ob, (setObj (g.at_ id).blk ob).run P w = .ok () { w with heap := w.heap.setIfInBounds (g.at_ id).blk ob } := fun ob => MapKept.run_setObj_map ob e1
     have ent : ∀ e0 : MapEntry, e0.key = a.eval k → e0.val = a.eval x → (∃ ks, DList tab g.im w kd ks ∧ e0.key.cells.toList = ks ∧ (∀ c, kd = [c] → ks = [e0.key])) ∧ VRel tab g obj w zv e0.val := fun e0 q1 q2 => by
      rw [q1, q2]
      exact ⟨⟨us, m1, m5, fun c e => (m4 c e).2⟩, hz⟩
     have hexec : ∀ w', (Instr.mapUpdate t (a.eval m) (a.eval k) (a.eval x)).run P w = .ok () w' → (execOp a.eval o).run P w = .ok .skip w' := fun w' q => by
      rcases ho with ho | ho <;> simp [execOp, ho, q]
     by_cases hlt : n < kvs.length
     ·rw [if_pos hlt] at hK
      have hm := f4.1 hlt
      obtain ⟨e, r1, r2⟩ := e6 hm
      have hpost := post_map hR.heap (es' := es.modify mi fun e => { e with key := a.eval k, val := a.eval x }) (cl' := clock) hobj e1 (kvs' := kvs.set n (kd, zv)) (by
       have hmod : (es.modify mi fun e => { e with key := a.eval k, val := a.eval x }).toList = es.toList.set mi { e with key := a.eval k, val := a.eval x } := by
        apply List.ext_getElem?
        intro j
        rw [Array.getElem?_toList, Array.getElem?_modify, List.getElem?_set]
        by_cases ej : mi = j
        ·subst ej
         obtain ⟨s3, s4⟩ := Array.getElem?_eq_some_iff.1 r1
         simp [r1, s3, s4]
        ·simp [ej]
       rw [hmod]
       obtain ⟨x0, hx0⟩ := f5 hm
       have hkeys : (kv.set mi (kd, zv)).map (·.1) = kv.map (·.1) := by
        rw [List.map_set]
        obtain ⟨s3, s4⟩ := List.getElem?_eq_some_iff.1 hx0
        apply List.ext_getElem?
        intro j
        rw [List.getElem?_set]
        by_cases ej : mi = j
        ·subst ej; simp [s3, s4]
        ·simp [ej]
       have hborn : (es.toList.set mi { e with key := a.eval k, val := a.eval x }).map (·.born) = es.toList.map (·.born) := by
        rw [List.map_set]
        have r1' : es.toList[mi]? = some e := by simpa using r1
        obtain ⟨s3, s4⟩ := List.getElem?_eq_some_iff.1 r1'
        apply List.ext_getElem?
        intro j
        rw [List.getElem?_set]
        by_cases ej : mi = j
        ·subst ej
         rw [List.getElem?_map, r1']
         simp only [Qf, s3, if_true, Option.map_some]
        ·simp [ej]
       refine ⟨kv.set mi (kd, zv), perm_set q1 f2 hlt hm _, by rw [hkeys]; exact q2, fun e' he' => ?_, by rw [hborn]; exact q4, EList.set (ent _ rfl rfl) mi e2⟩
       have : e'.born ∈ es.toList.map (·.born) := by rw [← hborn]; exact List.mem_map.2 ⟨e', he', rfl⟩
       obtain ⟨e0, s1, s2⟩ := List.mem_map.1 this
       rw [← s2]; exact q3 e0 s1)
      refine wp_skip' (hexec _ ?_) (hK g undef _ (by simpa [resO, Cop.wr, updL] using hpost) undef_rel)
      have hstays : (Instr.keyThatStays e.key (a.eval k)).run P w = .ok (a.eval k) w := by
       rw [r2, ← m3]
       have hs : Instr.sameBits 10000 (a.eval k) (a.eval k) = true := by
        have hself : eqDs ks kd kd = some true := by
         have : ∀ (kvs : List (List D × V)) (n : Nat), mapAt ks kd kvs = some n → n < kvs.length → eqDs ks kd kd = some true := by
          intro kvs
          induction kvs with
          | nil => intro n _ h; simp at h
          | cons p kvs ih =>
           intro n h1 h2
           simp only [mapAt] at h1
           split at h1
           ·rename_i heq; have := eqDs_true heq; rw [← this] at heq; exact heq
           ·split at h1
            ·rename_i m hm'; simp only [Qa] at h1; subst h1; exact ih m hm' (by simpa using h2)
            ·cases h1
           ·cases h1
         exact this kvs n hn hlt
        have hb := sameBits_flat hself m1
        cases hag : isAggT P kt with
        | false =>
         rw [hag] at m3
         obtain ⟨⟨w1, w2, w3⟩, _⟩ := flatK_ok (keyK_flat hk)
         simp only [hag, Qm, false_or] at w2
         match us, m2, m3, hb with
         | [u], _, m3, hb => rw [m3]; exact hb u (by simp) 10000
         | [], m2, _, _ => simp at m2; omega
         | _ :: _ :: _, m2, _, _ => simp at m2; omega
        | true =>
         rw [hag] at m3
         rw [m3]
         refine (?_ : ∀ n, Instr.sameBits (n + 1) (.agg us.toArray) (.agg us.toArray) = true) 9999
         intro n
         simp only [Instr.sameBits, beq_self_eq_true, Bool.true_and, List.all_eq_true]
         intro p hp
         obtain ⟨i, hi, e⟩ := List.getElem_of_mem hp
         rw [List.getElem_zip] at e
         rw [← e]
         exact hb _ (List.getElem_mem _) n
       simp [Instr.keyThatStays, hs]
      simp only [Instr.mapUpdate, hxv, Sem.run_bind, run_underlying ht, Result.andThen_ok, hg, m3] at *
      simp [e3, e4, r1, hstays, hset]
     ·rw [if_neg hlt] at hK
      have hm : ¬ mi < kv.length := fun h => hlt (f4.2 h)
      have hnn : mi = es.size := by omega
      have hnone : es[mi]? = none := by rw [Array.getElem?_eq_none_iff]; omega
      have hpost := post_map hR.heap (es' := es.push { key := a.eval k, val := a.eval x, born := clock }) (cl' := clock + 1) hobj e1 (kvs' := kvs ++ [(kd, zv)]) (by
       rw [Array.toList_push]
       refine ⟨kv ++ [(kd, zv)], q1.append_right _, ?_, fun e' he' => ?_, ?_, EList.push (ent _ rfl rfl) e2⟩
       ·rw [List.map_append, Keys, List.pairwise_append]
        refine ⟨q2, List.pairwise_singleton .., fun x hx y hy => ?_⟩
        simp only [Qb, Qc, List.mem_singleton] at hy
        subst hy
        obtain ⟨p, hp, rfl⟩ := List.mem_map.1 hx
        exact ⟨ks, eqDs_symm (f6 (by omega) p hp)⟩
       ·rcases List.mem_append.1 he' with he' | he'
        ·have := q3 e' he'; omega
        ·simp only [List.mem_singleton] at he'; subst he'; simp
       ·rw [List.map_append, List.nodup_append]
        refine ⟨q4, by simp, fun x hx y hy => ?_⟩
        simp only [Qb, Qc, List.mem_singleton] at hy
        subst hy
        obtain ⟨e0, s1, rfl⟩ := List.mem_map.1 hx
        have := q3 e0 s1
        omega)
      refine wp_skip' (hexec _ ?_) (hK g undef _ (by simpa [resO, Cop.wr, updL] using hpost) undef_rel)
      simp only [Instr.mapUpdate, hxv, Sem.run_bind, run_underlying ht, Result.andThen_ok, hg, m3] at *
      simp [e3, e4, hnone, hset]
    ·cases hv
   ·cases hv
  | _ => simp [actMu, Cop.ids] at hv
 ·cases h
theorem ok_del {t kt et u : TypeId} {m k : Operand} {ks : List CK} {cop : Cop} (ho : o.op = .call { callee := .builtin .delete, args := #[m, k], argTypes := #[t, u] }) (ht : P.underlying t = some (.map kt et)) (hk : keyK P kt = some ks)
  (hc : bi2 P tab (some t) (some kt) m k (.del (isAggT P kt) ks) = some cop) : OkOp P tab o cop := by
 obtain ⟨m', k', hm, hk', rfl⟩ := bi2_rel hc
 intro nt g get obj a w hR fresh r hf h K Q hK
 have hx := compA_rel (w := w) hm hR.tmp
 have hy := compA_rel (w := w) hk' hR.tmp
 simp only [Cop.args, Qb, Qc, act] at h hK
 generalize evA get m' = xv at h hx hK
 generalize evA get k' = yv at h hy hK
 split at h
 ·rename_i os' hv
  simp only [Qa] at h
  subst h
  cases xv with
  | map id =>
   simp only [Cop.ids, Qb, Qc] at hv hK
   simp only [VRel] at hx
   obtain ⟨hm, hxv⟩ := hx
   obtain ⟨kvs, hobj⟩ : ∃ kvs, obj id = some (.map kvs) := by
    rcases hm with hm | ⟨kvs, hm⟩
    ·exact hm
    ·simp [actDel, hm] at hv
   simp only [actDel, hobj] at hv
   split at hv
   ·rename_i kd hkd
    split at hv
    ·rename_i n hn
     simp only [Qa] at hv
     subst hv
     obtain ⟨us, m1, m2, m3, m4, m5⟩ := key_arg hk hkd hy
     obtain ⟨es, clock, kv, mi, e1, ⟨q1, q2, q3, q4, e2⟩, e3, e4, ⟨f1, f2, f3, f4, f5, f6, f7⟩, e6⟩ := lk_sound (P := P) hR.heap hk (.inl hobj) m1 m2 hn (fun es => es.isEmpty)
     have hl := e2.at_
     simp only [Array.length_toList] at hl
     have hg : (getObj (g.at_ id).blk).run P w = .ok (.map es clock) w := MapKept.run_getObj_map e1
     have hset : ∀ ob, (setObj (g.at_ id).blk ob).run P w = .ok () { w with heap := w.heap.setIfInBounds (g.at_ id).blk ob } := fun ob => MapKept.run_setObj_map ob e1
     have hpost := post_map hR.heap (es' := es.eraseIdxIfInBounds mi) (cl' := clock) hobj e1 (kvs' := kvs.eraseIdx n) (by
      rw [Array.toList_eraseIdxIfInBounds]
      refine ⟨kv.eraseIdx mi, ?_, ?_, fun e' he' => q3 e' (List.mem_of_mem_eraseIdx he'), ?_, EList.erase mi e2⟩
      ·by_cases hlt : n < kvs.length
       ·exact perm_erase q1 f2 hlt (f4.1 hlt)
       ·have hm : ¬ mi < kv.length := fun h => hlt (f4.2 h)
        rw [List.eraseIdx_of_length_le (by omega), List.eraseIdx_of_length_le (by omega)]
        exact q1
      ·exact List.Pairwise.sublist ((List.eraseIdx_sublist kv mi).map _) q2
      ·exact List.Pairwise.sublist ((List.eraseIdx_sublist es.toList mi).map _) q4)
     refine wp_value (v := .tuple #[]) (w' := { w with heap := w.heap.setIfInBounds (g.at_ id).blk (.map (es.eraseIdxIfInBounds mi) clock) }) ?_ (hK g _ _ (by simpa [resO, Cop.wr, updL] using hpost) undef_rel)
     by_cases hlt : n < kvs.length
     ·obtain ⟨e, r1, r2⟩ := e6 (f4.1 hlt)
      simp [execOp, ho, resolve, invoke, builtin, Builtin.delete_, hxv, m3, run_underlying ht, hg, e3, e4, r1, hset]
     ·have hm : ¬ mi < kv.length := fun h => hlt (f4.2 h)
      have hnone : es[mi]? = none := by rw [Array.getElem?_eq_none_iff]; omega
      have hsame : es.eraseIdxIfInBounds mi = es := by
       unfold Array.eraseIdxIfInBounds
       rw [dif_neg (by omega)]
      simp [execOp, ho, resolve, invoke, builtin, Builtin.delete_, hxv, m3, run_underlying ht, hg, e3, e4, hnone, hset, hsame]
    ·cases hv
   ·cases hv
  | _ => simp [actDel, Cop.ids] at hv
 ·cases h
end
open Go
open Go.RowKit (Below)
section
variable {P : Program} {tab : Tab} {g : Gh} {obj : Nat → Option Obj} {w : World} {o : Oper}
theorem zero_info (w : World) {e : TypeId} (hc : P.cellsOf e ≠ 0) (hz : (zeroOf P e).isSome = true) : ∃ i z, P.info? e = some i ∧ i.size = P.cellsOf e ∧ i.bytes = P.bytesOf e ∧ i.zero = some z ∧ z.cells.size = P.cellsOf e := by
 obtain ⟨i, hi, his⟩ := info_of hc
 obtain ⟨zv, hzv⟩ := Option.isSome_iff_exists.1 hz
 obtain ⟨i', z, h1, h2, h3, h4, h5, h6⟩ := zeroOf_rel (tab := ⟨[], []⟩) hzv ⟨fun _ => ⟨0, 0, 0⟩, fun _ _ => False⟩ (fun _ => none) w
 rw [hi] at h1
 simp only [Qa] at h1
 subst h1
 refine ⟨i, z, hi, his, by simp [Program.bytesOf, hi], h2, ?_⟩
 have := h4.length
 simpa [h5] using this
theorem more_src (hH : HRel tab g obj w) {sz : Nat} {y : V} {os : List (Option Obj)} {ys : List (List V)} (hos : os = arrOs obj y) (h : arrMore sz y os = some ys) {yv : Value} (hy : VRel tab g obj w y yv) :
  ∃ A c us, yv = .slice A ys.length c ∧ (∀ r ∈ ys, r.length = sz) ∧ CList tab g obj w ys.flatten us ∧
   (∀ w', (∀ b o, w'.cell? (cellAt b o) = w.cell? (cellAt b o)) → (Builtin.firstCells sz ys.length (.slice A ys.length c)).run P w' = .ok us.toArray w') := by
 have data : ∀ (y : V) (ds : List (List D)), moreOf sz y = some ds → VRel tab g obj w y yv → ys = ds.map ofDs → ∃ A c us, yv = .slice A ys.length c ∧ (∀ r ∈ ys, r.length = sz) ∧ CList tab g obj w ys.flatten us ∧
   (∀ w', (∀ b o, w'.cell? (cellAt b o) = w.cell? (cellAt b o)) → (Builtin.firstCells sz ys.length (.slice A ys.length c)).run P w' = .ok us.toArray w') := by
  rintro y ds hds hy rfl
  obtain ⟨A, c, rfl, hs, hY⟩ := moreOf_rel hds hy
  obtain ⟨us, k1, k2, k3, _⟩ := firstCells_of (P := P) (c := c) hs hY
  refine ⟨A, c, us, by simp, fun r hr => ?_, ?_, by simpa using k3⟩
  ·obtain ⟨d, hd, rfl⟩ := List.mem_map.1 hr
   simp [ofDs, hs d hd]
  ·have : (ds.map ofDs).flatten = ofDs ds.flatten := by simp [ofDs, List.map_flatten]; rfl
   rw [this]
   exact CList.ofDs k1
 subst hos
 unfold arrMore at h
 split at h
 ·rename_i id ver off len ver' sz' xs heq
  simp only [arrOs, List.cons.injEq, and_true] at heq
  split at h
  ·rename_i hcond
   obtain ⟨rfl, rfl, hle⟩ := hcond
   simp only [Qa] at h
   subst h
   simp only [VRel] at hy
   obtain ⟨⟨A2, c2', e1, e2⟩, v2, s2, xs2, k1, k2, k3⟩ := hy
   rw [heq] at k1
   simp only [Qa, Obj.arr.injEq] at k1
   obtain ⟨rfl, rfl, rfl⟩ := k1
   obtain ⟨_, A, c, rfl, k4⟩ := k3 rfl
   have hlen : ((xs.drop off).take len).length = len := by simp; omega
   obtain ⟨hs, hcnt, hsome, hcells⟩ := hH.ob id _ heq
   obtain ⟨us, c1, c2, c3⟩ := arr_cells (tab := tab) (g := g) (obj := obj) (w := w) xs _ hs hcells
   have hfl : ((xs.drop off).take len).flatten = (xs.flatten.drop (off * sz')).take (len * sz') := by
    rw [rows_flatten_take len (fun r hr => hs r (List.mem_of_mem_drop hr)), rows_flatten_drop off hs]
   have hul : ((us.drop (off * sz')).take (len * sz')).length = len * sz' := by
    simp; rw [c2]
    have := Nat.mul_le_mul_right sz' hle
    rw [Nat.add_mul] at this; omega
   refine ⟨A, c, (us.drop (off * sz')).take (len * sz'), by rw [hlen], fun r hr => hs r (List.mem_of_mem_drop (List.mem_of_mem_take hr)), by rw [hfl]; exact (c1.drop _).take _, fun w' hw => ?_⟩
   rw [hlen]
   by_cases h0 : len = 0
   ·subst h0
    cases A with
    | none => simp [Builtin.firstCells]
    | some a => simp [Builtin.firstCells, loadCells, loadCellsFrom]
   ·rcases k4 with k4 | ⟨rfl, k4⟩
    ·simp only [Value.slice.injEq] at e1
     omega
    ·show (loadCells (cellAt _ _) (len * sz')).run P w' = _
     have hrun := run_loadCells_list (P := P) w' (cellAt (g.at_ id).blk ((g.at_ id).lo + off * sz')) ((us.drop (off * sz')).take (len * sz')) (fun j v hj => by
      rw [add_at, hw]
      exact ((c3.drop (off * sz')).take (len * sz')) j v hj)
     rw [hul] at hrun
     exact hrun
  ·cases h
 ·rename_i y' hne heq
  split at h
  ·rename_i ds hds
   simp only [Qa] at h
   exact data _ ds hds hy h.symm
  ·cases h
 ·cases h
theorem okArr_new {id sz : Nat} (h : obj id = none) : okArr obj id 0 sz := .inl h
theorem arr_grow (hH : HRel tab g obj w) {t u ty e : TypeId} (ht : P.underlying t = some (.slice e)) (hu : isSliceT P u = true) (hc : P.cellsOf e ≠ 0) (hb : P.bytesOf e ≠ 0) (hz : (zeroOf P e).isSome = true)
  {id ver : Nat} {xs ys : List (List V)} {base A : Option Addr} {sCap c : Nat} {us vs : List Value} (hT : okArr obj id ver (P.cellsOf e)) (hxs : ∀ r ∈ xs, r.length = P.cellsOf e) (hys : ∀ r ∈ ys, r.length = P.cellsOf e)
  (hX : CList tab g obj w xs.flatten us) (hY : CList tab g obj w ys.flatten vs)
  (k3 : ∀ w', (∀ b o, w'.cell? (cellAt b o) = w.cell? (cellAt b o)) → (Builtin.firstCells (P.cellsOf e) xs.length (.slice base xs.length sCap)).run P w' = .ok us.toArray w')
  (m3 : ∀ w', (∀ b o, w'.cell? (cellAt b o) = w.cell? (cellAt b o)) → (Builtin.firstCells (P.cellsOf e) ys.length (.slice A ys.length c)).run P w' = .ok vs.toArray w')
  (hr : roomy (xs.length + ys.length) (P.bytesOf e) = true) (hg : sCap < xs.length + ys.length) :
  ∃ g' v w', (Builtin.append_ #[t, u] ty #[.slice base xs.length sCap, .slice A ys.length c]).run P w = .ok v w' ∧ Post tab g obj w g' (updO obj id (some (.arr ver (P.cellsOf e) (xs ++ ys)))) w' ∧
   VRel tab g' (updO obj id (some (.arr ver (P.cellsOf e) (xs ++ ys)))) w' (.arr id ver 0 (xs.length + ys.length)) v := by
 obtain ⟨i, z, hi, his, hib, hiz, hzs⟩ := zero_info w hc hz
 obtain ⟨r1, r2⟩ := roomy_le hr hb
 rw [← his] at k3 m3
 have hrun := run_append_more (w := w) (ty := ty) ht hu hi hiz base A xs.length sCap ys.length c us vs k3 m3 hg (by omega) (growslice_fits hg (by rw [hib]; omega))
 have hge := grownCap_ge w (xs.length + ys.length) sCap e
 obtain ⟨g', h1, h2⟩ := arr_new (dr := w.drawn + 1) (e := e) (cap := grownCap w (xs.length + ys.length) sCap e) (zs := xs ++ ys) (us := us ++ vs) (rest := (Builtin.zeroCells z.cells (grownCap w (xs.length + ys.length) sCap e - (xs.length + ys.length))).toList) hH hT
  (by rw [List.flatten_append]; exact hX.append hY) (fun r hr => (List.mem_append.1 hr).elim (hxs r) (hys r)) (by rw [Qg]; exact hge)
  (by rw [Array.length_toList, size_zeroCells, hzs, Qg])
 rw [Qg] at h2
 exact ⟨g', _, _, hrun, h1, h2⟩
theorem updL_other (obj : Nat → Option Obj) (id : Nat) (x : Option Obj) (ids : List Nat) (h : ∀ i ∈ ids, i ≠ id) : updL (updO obj id x) ids (ids.map obj) = updO obj id x := by
 have : ids.map obj = ids.map (updO obj id x) := List.map_congr_left fun i hi => (updO_ne _ _ (h i hi)).symm
 rw [this, updL_self]
def arrIs : V → List Nat
 | .arr id _ _ _ => [id]
 | _ => []
theorem arrIs_map (obj : Nat → Option Obj) (y : V) : (arrIs y).map obj = arrOs obj y := by cases y <;> rfl
theorem apa_ids_nil (sz bytes : Nat) (a b : A) (n : Nat) (y : V) : Cop.ids (.apa sz bytes a b) [.nil n, y] = arrIs y := by cases y <;> rfl
theorem apa_ids_arr (sz bytes : Nat) (a b : A) (id ver off len : Nat) (y : V) : Cop.ids (.apa sz bytes a b) [.arr id ver off len, y] = id :: arrIs y := by cases y <;> rfl
theorem nil_first (sz sCap : Nat) (base : Option Addr) (w' : World) : (Builtin.firstCells sz 0 (.slice base 0 sCap)).run P w' = .ok #[] w' := by
 cases base with
 | none => simp [Builtin.firstCells]
 | some a => simp [Builtin.firstCells, loadCells, loadCellsFrom]
theorem ok_apa {t u e ty : TypeId} {x y : Operand} {cop : Cop} (ho : o.op = .call { callee := .builtin .append, args := #[x, y], argTypes := #[t, u] }) (ht : P.underlying t = some (.slice e)) (hu : isSliceT P u = true) (hcz : P.cellsOf e ≠ 0) (hbz : P.bytesOf e ≠ 0)
  (hz : (zeroOf P e).isSome = true) (hc : bi2 P tab (some t) (some u) x y (.apa (P.cellsOf e) (P.bytesOf e)) = some cop) : OkOp P tab o cop := by
 obtain ⟨a', b', ha, hb, rfl⟩ := bi2_rel hc
 intro nt g get obj a w hR fresh r hf h K Q hK
 have hx := compA_rel (w := w) ha hR.tmp
 have hy := compA_rel (w := w) hb hR.tmp
 simp only [Cop.args, Qb, Qc, act] at h hK
 have hH := hR.heap
 have hex : ∀ v w', (Builtin.append_ #[t, u] o.type #[a.eval x, a.eval y]).run P w = .ok v w' → (execOp a.eval o).run P w = .ok (.value v) w' := fun v w' k1 => by
  simp [execOp, ho, resolve, invoke, builtin, k1]
 generalize evA get a' = xv at h hx hK
 generalize evA get b' = yv at h hy hK
 cases xv with
 | nil n =>
  rw [apa_ids_nil, arrIs_map] at h
  rw [apa_ids_nil] at hK
  simp only [actApa, apaNil] at h
  split at h
  ·rename_i ys hys
   split at h
   ·rename_i hroomy
    simp only [Qa] at h
    subst h
    simp only [resO, Cop.wr, if_true, ← arrIs_map, updL_self] at hK
    obtain ⟨A, c, vs, k1, k2, k3, k4⟩ := more_src (P := P) hH rfl hys hy
    simp only [VRel] at hx
    rw [hx, k1] at hex
    by_cases hn : ys = []
    ·subst hn
     have hrun := run_append_none (P := P) (w := w) (ty := o.type) ht hu hcz none A 0 0 c (Nat.le_refl _)
     have hno : ∀ b q, ¬ owns ⟨updP g.at_ fresh ⟨0, 0, 0⟩, g.im⟩ (updO obj fresh (some (.arr 0 (P.cellsOf e) []))) fresh b q := fun b q h => by
      unfold owns at h
      simp only [updO_same, updP_same] at h
      omega
     obtain ⟨h1, h2, h3⟩ := step1 (tab := tab) (w' := w) hH fresh (.arr 0 (P.cellsOf e) []) ⟨0, 0, 0⟩ g.im rfl rfl rfl (Nat.le_refl _) (fun _ _ => .refl _) (fun _ _ h => h) (fun _ _ h => .inl h)
      (fun b q h => absurd h (hno b q)) (fun b q h => absurd h (hno b q)) (.arr (.inl hf) _ _ _) (fun _ => ⟨by simp, by simp, fun q hq => absurd hq (Nat.not_lt_zero _), fun i r q x h => by simp at h⟩)
     refine wp_value (hex _ _ hrun) (hK _ _ _ ⟨h1, h2, h3⟩ ?_)
     simp only [VRel]
     exact ⟨⟨none, 0, rfl, Nat.le_refl _⟩, 0, _, [], updO_same _ _ _, Nat.le_refl _, fun _ => ⟨by simp, none, 0, rfl, .inl rfl⟩⟩
    ·have hpos : 0 < ys.length := List.length_pos_iff.2 hn
     obtain ⟨g', v, w', p1, p2, p3⟩ := arr_grow (tab := tab) (xs := []) (us := []) (base := none) (sCap := 0) hH (ty := o.type) ht hu hcz hbz hz (okArr_new hf) (by simp) k2 (by simp [CList]) k3 (fun w' _ => nil_first ..) k4 (by simpa using hroomy) (by simpa using hpos)
     simp only [List.length_nil, Nat.zero_add, List.nil_append] at p1 p2 p3
     exact wp_value (hex _ _ p1) (hK _ _ _ p2 p3)
   ·cases h
  ·cases h
 | arr id ver off len =>
  rw [apa_ids_arr, Qb, arrIs_map] at h
  rw [apa_ids_arr] at hK
  simp only [actApa] at h
  unfold apaArr at h
  split at h
  ·rename_i ver' sz' xs os heq
   simp only [List.cons.injEq] at heq
   obtain ⟨ho2, rfl⟩ := heq
   split at h
   ·rename_i hcond
    obtain ⟨rfl, rfl, hle, hoth⟩ := hcond
    split at h
    ·rename_i ys hys
     split at h
     ·rename_i hroomy
      simp only [Qa] at h
      subst h
      have hne : ∀ i ∈ arrIs yv, i ≠ id := fun i hi => by
       cases yv <;> simp only [arrIs, List.mem_singleton, List.not_mem_nil] at hi
       subst hi
       simpa [V.other] using hoth
      simp only [resO, Cop.wr, if_true, ← arrIs_map, updL, updL_other obj id _ _ hne] at hK
      obtain ⟨A, c, vs, k1, k2, k3, k4⟩ := more_src (P := P) hH rfl hys hy
      simp only [VRel] at hx
      obtain ⟨⟨A2, c2, e1, e2⟩, v2, s2, xs2, f1, f2, f3⟩ := hx
      rw [ho2] at f1
      simp only [Qa, Obj.arr.injEq] at f1
      obtain ⟨rfl, rfl, rfl⟩ := f1
      obtain ⟨_, A3, c3, e3, hat⟩ := f3 rfl
      rw [e1] at e3
      simp only [Value.slice.injEq, true_and] at e3
      obtain ⟨rfl, rfl⟩ := e3
      rw [e1, k1] at hex
      by_cases hroom : len + ys.length ≤ c2
      ·obtain ⟨q1, q2, g', h1, h2⟩ := arr_room (tab := tab) hH ho2 (Nat.lt_succ_self ver) hle hat hroom k3 k2
       by_cases hn : ys = []
       ·subst hn
        have hvs : vs = [] := List.length_eq_zero_iff.1 (by have := k3.length; simpa using this)
        subst hvs
        exact wp_value (hex _ _ (run_append_none (w := w) (ty := o.type) ht hu hcz A2 A len c2 c e2)) (hK _ _ _ h1 h2)
       ·have hpos : 0 < ys.length := List.length_pos_iff.2 hn
        rcases hat with hat | ⟨rfl, hat⟩
        ·omega
        ·obtain ⟨d, hd⟩ : ∃ d, P.underlying u = some (.slice d) := by
          unfold isSliceT at hu
          split at hu
          ·exact ⟨_, by assumption⟩
          ·cases hu
         have hst := run_storeCells_cells (P := P) (g.at_ id).blk ((g.at_ id).lo + (off + len) * P.cellsOf e) vs 0 w (by simpa using q1) (by simpa using q2) k3.ones
         simp only [Nat.add_zero] at hst
         have hfc := k4 w (fun _ _ => rfl)
         have hadd : (cellAt (g.at_ id).blk ((g.at_ id).lo + off * P.cellsOf e)).add (len * P.cellsOf e) = cellAt (g.at_ id).blk ((g.at_ id).lo + (off + len) * P.cellsOf e) := by
          rw [add_at, Nat.add_mul]; congr 1; omega
         refine wp_value (hex _ _ ?_) (hK _ _ _ h1 h2)
         simp [Builtin.append_, run_underlying ht, run_underlying hd, run_size hcz, Builtin.lenOf, hroom, hfc, hadd, hst]
      ·obtain ⟨A0, c0, us0, j1, j2, j3, j4⟩ := more_src (P := P) (y := .arr id ver off len) (sz := P.cellsOf e) (ys := (xs.drop off).take len) (yv := .slice A2 len c2) hH rfl (by simp [arrMore, arrOs, ho2, hle]) (by
        simp only [VRel]
        exact ⟨⟨A2, c2, rfl, e2⟩, ver, _, xs, ho2, Nat.le_refl _, fun _ => ⟨hle, A2, c2, rfl, hat⟩⟩)
       have hlen : ((xs.drop off).take len).length = len := by simp; omega
       rw [hlen] at j1 j4
       simp only [Value.slice.injEq, true_and] at j1
       obtain ⟨rfl, rfl⟩ := j1
       obtain ⟨g', v, w', p1, p2, p3⟩ := arr_grow (tab := tab) (id := id) (ver := ver + 1) (xs := (xs.drop off).take len) (us := us0) (base := A2) (sCap := c2) hH (ty := o.type) ht hu hcz hbz hz (.inr ⟨ver, xs, Nat.lt_succ_self _, ho2⟩) j2 k2 j3 k3 (by rw [hlen]; exact j4) k4 (by rw [hlen]; exact hroomy) (by rw [hlen]; omega)
       rw [hlen] at p1 p3
       exact wp_value (hex _ _ p1) (hK _ _ _ p2 p3)
     ·cases h
    ·cases h
   ·cases h
  ·cases h
 | _ => simp [actApa] at h
theorem run_apz {t u ty e : TypeId} {i : TypeInfo} {z : Value} (ht : P.underlying t = some (.slice e)) (hu : isIntT P u = true) (hi : P.info? e = some i) (hz : i.zero = some z) (hs : i.size ≠ 0) {k : IntKind} {n : Nat} (hn : 0 < n) (h44 : n * i.bytes ≤ 17592186044416) (hb : i.bytes ≠ 0) :
  (Builtin.append_ #[t, u] ty #[.slice none 0 0, .int k n]).run P w =
   .ok (.slice (some ⟨w.heap.size, 0, none⟩) n (grownCap w n 0 e)) (w.drew.alloc (.cells ((Builtin.zeroCells z.cells n).toList ++ (Builtin.zeroCells z.cells (grownCap w n 0 e - n)).toList).toArray e)) := by
 obtain ⟨k', hk⟩ : ∃ k', P.underlying u = some (.int k') := by
  unfold isIntT at hu
  split at hu
  ·exact ⟨_, by assumption⟩
  ·cases hu
 have hn44 : n ≤ 17592186044416 := by
  have : n * 1 ≤ n * i.bytes := Nat.mul_le_mul_left _ (by omega)
  omega
 have hw : IntKind.i64.wrap (n : Int) = n := by
  exact Go.IntWalk.i64_in n ⟨by omega, by omega⟩
 have h0 : ¬ ((n : Int) < 0) := by omega
 have h48 : ¬ (281474976710656 < (n : Int) * (i.bytes : Int)) := by
  have : ((n * i.bytes : Nat) : Int) ≤ 17592186044416 := by omega
  rw [Int.natCast_mul] at this
  omega
 have hne : ¬ (n ≤ 0) := by omega
 have h63 : ¬ (9223372036854775807 < (n : Int)) := by omega
 have hcap : Builtin.nextslicecap n 0 = n := by
  unfold Builtin.nextslicecap
  simp; omega
 have h48' : ¬ (281474976710656 < n * i.bytes) := by omega
 have hnz : ¬ (n = 0) := by omega
 have h63' : ¬ (9223372036854775807 < n) := by omega
 simp [Builtin.append_, run_underlying ht, run_underlying hk, Go.sizeOf, typeInfo, zeroValue, hi, hz, asInt, asIntOf, hw, h0, h48, hnz, hs, hcap, h63, h63', h48', hne, Question.forced, newRow, grownCap, Builtin.firstCells]
 have hns : ¬ (n * i.size = 0) := by
  intro h
  rcases Nat.mul_eq_zero.1 h with h | h <;> omega
 rw [if_neg hns]
 congr 3
 apply Array.ext'
 simp
theorem ok_apz {t u e : TypeId} {x y : Operand} {z : V} {zd : List D} {cop : Cop} (ho : o.op = .call { callee := .builtin .append, args := #[x, y], argTypes := #[t, u] }) (ht : P.underlying t = some (.slice e)) (hu : isIntT P u = true) (hcz : P.cellsOf e ≠ 0) (hbz : P.bytesOf e ≠ 0)
  (hz : zeroOf P e = some z) (hzd : V.toDs z.cells = some zd) (hl : zd.length = P.cellsOf e) (hc : bi2 P tab (some t) none x y (.apz (P.cellsOf e) (P.bytesOf e) zd) = some cop) : OkOp P tab o cop := by
 obtain ⟨a', b', ha, hb, rfl⟩ := bi2_rel hc
 intro nt g get obj a w hR fresh r hf h K Q hK
 have hx := compA_rel (w := w) ha hR.tmp
 have hy := compA_rel (w := w) hb hR.tmp
 simp only [Cop.args, Qb, Qc, act] at h hK
 have hH := hR.heap
 have hex : ∀ v w', (Builtin.append_ #[t, u] o.type #[a.eval x, a.eval y]).run P w = .ok v w' → (execOp a.eval o).run P w = .ok (.value v) w' := fun v w' k1 => by
  simp [execOp, ho, resolve, invoke, builtin, k1]
 obtain ⟨i, z0, hi, hiz, hcel, hzc, hzl, _⟩ := zeroOf_rel (tab := tab) hz g obj w
 have hsz : i.size = P.cellsOf e := by simp [Program.cellsOf, hi]
 have hby : i.bytes = P.bytesOf e := by simp [Program.bytesOf, hi]
 unfold actApz at h
 split at h
 ·rename_i n0 k n heq hos
  injection heq with q1 q2
  injection q2 with q2 _
  rw [q1] at hx
  rw [q2] at hy
  rw [q1, q2] at hK
  simp only [VRel, DRel] at hx hy
  rw [hx, hy] at hex
  split at h
  ·rename_i hcond
   obtain ⟨h0, hroom⟩ := hcond
   simp only [Qa] at h
   subst h
   simp only [roomy, Qh] at hroom
   have hkk : resO obj (Cop.wr (.apz (P.cellsOf e) (P.bytesOf e) zd a' b')) (Cop.ids (.apz (P.cellsOf e) (P.bytesOf e) zd a' b') [.nil n0, .d (.i k n)]) ⟨.arr fresh 0 0 n.toNat, [], some (.arr 0 (P.cellsOf e) (List.replicate n.toNat (ofDs zd)))⟩ fresh = updO obj fresh (some (.arr 0 (P.cellsOf e) (List.replicate n.toNat (ofDs zd)))) := rfl
   rw [hkk] at hK
   obtain ⟨m, rfl⟩ : ∃ m : Nat, n = m := ⟨n.toNat, by omega⟩
   rw [Qk] at hK hroom
   have hzD : DList tab g.im w zd z0.cells.toList := toDs_rel hzd hzc.toV
   have hzs : z0.cells.size = P.cellsOf e := by rw [← Array.length_toList, hzD.length, hl]
   by_cases hm : m = 0
   ·subst hm
    have hno : ∀ b q, ¬ owns ⟨updP g.at_ fresh ⟨0, 0, 0⟩, g.im⟩ (updO obj fresh (some (.arr 0 (P.cellsOf e) []))) fresh b q := fun b q h => by
     unfold owns at h
     simp only [updO_same, updP_same] at h
     omega
    obtain ⟨h1, h2, h3⟩ := step1 (tab := tab) (w' := w) hH fresh (.arr 0 (P.cellsOf e) []) ⟨0, 0, 0⟩ g.im rfl rfl rfl (Nat.le_refl _) (fun _ _ => .refl _) (fun _ _ h => h) (fun _ _ h => .inl h)
     (fun b q h => absurd h (hno b q)) (fun b q h => absurd h (hno b q)) (.arr (.inl hf) _ _ _) (fun _ => ⟨by simp, by simp, fun q hq => absurd hq (Nat.not_lt_zero _), fun i r q x h => by simp at h⟩)
    refine wp_value (hex (.slice none 0 0) w ?_) (hK _ _ _ ⟨h1, h2, h3⟩ ?_)
    ·obtain ⟨k', hk⟩ : ∃ k', P.underlying u = some (.int k') := by
      unfold isIntT at hu
      split at hu
      ·exact ⟨_, by assumption⟩
      ·cases hu
     have hw : IntKind.i64.wrap 0 = 0 := by decide
     simp [Builtin.append_, run_underlying ht, run_underlying hk, run_size hcz, typeInfo, hi, asInt, asIntOf, hw]
    ·simp only [VRel]
     exact ⟨⟨none, 0, rfl, Nat.le_refl _⟩, 0, _, [], updO_same _ _ _, Nat.le_refl _, fun _ => ⟨by simp, none, 0, rfl, .inl rfl⟩⟩
   ·have hrun := run_apz (P := P) (w := w) (ty := o.type) ht hu hi hiz (by omega) (k := k) (n := m) (by omega) (by rw [hby]; exact hroom) (by omega)
    have hge := grownCap_ge w m 0 e
    have hrep : ∀ n, CList tab g obj w (List.replicate n (ofDs zd)).flatten (List.replicate n z0.cells.toList).flatten := fun n => by
     induction n with
     | zero => simp [CList]
     | succ n ih => simp only [List.replicate_succ, List.flatten_cons]; exact (CList.ofDs hzD).append ih
    have hz1 : (Builtin.zeroCells z0.cells m).toList = (List.replicate m z0.cells.toList).flatten := zero_rows z0.cells (by omega) m
    obtain ⟨g', h1, h2⟩ := arr_new (tab := tab) (dr := w.drawn + 1) (id := fresh) (ver := 0) (sz := P.cellsOf e) (e := e) (cap := grownCap w m 0 e) (zs := List.replicate m (ofDs zd)) (us := (List.replicate m z0.cells.toList).flatten) (rest := (Builtin.zeroCells z0.cells (grownCap w m 0 e - m)).toList) hH (.inl hf)
     (hrep m) (fun r hr => by rw [(List.mem_replicate.1 hr).2]; simp [ofDs, hl]) (by rw [List.length_replicate]; exact hge)
     (by rw [Array.length_toList, size_zeroCells, hzs, List.length_replicate])
    rw [hz1] at hrun
    rw [List.length_replicate] at h2
    exact wp_value (hex _ _ hrun) (hK _ _ _ h1 h2)
  ·cases h
 ·cases h
theorem ok_capn {t e : TypeId} {x : Operand} {cop : Cop} (ho : o.op = .call { callee := .builtin .cap, args := #[x], argTypes := #[t] }) (ht : P.underlying t = some (.slice e)) (hc : un1 P tab (some t) x .capn = some cop) : OkOp P tab o cop := by
 obtain ⟨a', ha, rfl⟩ := un1_rel hc
 intro nt g get obj a w hR fresh r hf h K Q hK
 have hx := compA_rel (w := w) ha hR.tmp
 simp only [Cop.args, Qb, Qc] at h hK
 generalize evA get a' = xv at h hx hK
 cases xv with
 | nil n =>
  simp only [act, Qa] at h
  subst h
  simp only [VRel] at hx
  refine wp_value (v := .int .i64 0) (w' := w) ?_ (hK g _ _ (.refl hR.heap) (by simp only [VRel, DRel]))
  simp [execOp, ho, resolve, invoke, builtin, hx, Builtin.cap_, run_underlying ht, goInt]
 | _ => simp [act] at h
theorem ok_nilm {op : BinOp} {t u : TypeId} {x y : Operand} {cop : Cop} (ho : o.op = .binOp op t x y u) (ht : isMapT P t = true) (hop : isEqOp op = true) (hy : isNilMap y = true) (hc : un1 P tab (some t) x (.nilm (op == .neq)) = some cop) : OkOp P tab o cop := by
 obtain ⟨a', ha, rfl⟩ := un1_rel hc
 intro nt g get obj a w hR fresh r hf h K Q hK
 have hx := compA_rel (w := w) ha hR.tmp
 obtain ⟨kt, et, ht⟩ : ∃ kt et, P.underlying t = some (.map kt et) := by
  unfold isMapT at ht
  split at ht
  ·exact ⟨_, _, by assumption⟩
  ·cases ht
 have hye : a.eval y = .map none := by
  unfold isNilMap at hy
  split at hy
  ·rfl
  ·cases hy
 simp only [Cop.args, Qb, Qc, act] at h
 split at h
 ·rename_i b hb
  simp only [Qa] at h
  subst h
  have key : ∃ A, a.eval x = .map A ∧ A.isNone = b := by
   unfold nilMap at hb
   split at hb
   ·rename_i heq
    rw [heq] at hx
    simp only [VRel, DRel] at hx
    simp at hb; subst hb
    exact ⟨_, hx, rfl⟩
   ·rename_i id heq
    rw [heq] at hx
    simp only [VRel] at hx
    simp at hb; subst hb
    exact ⟨_, hx.2, rfl⟩
   ·cases hb
  obtain ⟨A, hx', hA⟩ := key
  have he0 : ∀ d, (Op.equalIn (d + 1) t (.map A) (.map none)).run P w = .ok A.isNone w := fun d => by
   simp only [Op.equalIn, Sem.run_bind, run_underlying ht, Result.andThen_ok]
   cases A <;> rfl
  have he : (Op.equal t (.map A) (.map none)).run P w = .ok A.isNone w := he0 9999
  have hg := eqGuard_ok (P := P) (op := op) (t := t) (x := x) (y := y) (u := .map A) (v := .map none) w (by simp) (by simp)
  refine wp_value (v := .bool (if (op == .neq) = true then !b else b)) (w' := w) ?_ (hK g _ _ (.refl hR.heap) (by simp only [VRel, DRel]))
  simp only [execOp, ho, hx', hye, hg, Sem.run_bind, Result.andThen_ok]
  cases op <;> simp [isEqOp] at hop <;> simp [Go.binOp, he, hA] <;> rfl
 ·cases h
theorem set_flatten' {α : Type} : ∀ {xs : List (List α)} {i sz : Nat} {ds : List α}, (∀ r ∈ xs, r.length = sz) → ds.length = sz → i < xs.length → (xs.set i ds).flatten = xs.flatten.take (i * sz) ++ ds ++ xs.flatten.drop (i * sz + sz)
 | x :: xs, 0, sz, ds, h, hd, hi => by
  have hx : x.length = sz := h x (by simp)
  simp [← hx]
 | x :: xs, i + 1, sz, ds, h, hd, hi => by
  have hx : x.length = sz := h x (by simp)
  rw [List.set_cons_succ, List.flatten_cons, List.flatten_cons, set_flatten' (fun r hr => h r (List.mem_cons_of_mem _ hr)) hd (by simpa using hi)]
  have t1 : ∀ (k : Nat) (l : List α), (x ++ l).take (x.length + k) = x ++ l.take k := fun k l => by rw [List.take_append, List.take_of_length_le (by omega), Nat.add_sub_cancel_left]
  have t2 : ∀ (k : Nat) (l : List α), (x ++ l).drop (x.length + k) = l.drop k := fun k l => by rw [List.drop_append, List.drop_of_length_le (by omega), Nat.add_sub_cancel_left, List.nil_append]
  rw [show (i + 1) * sz = x.length + i * sz by rw [Nat.add_mul, hx]; omega, show x.length + i * sz + sz = x.length + (i * sz + sz) by omega, t1, t2]
  simp
theorem fillA_rel {sz : Nat} : ∀ {is : List Nat} {vs : List V} {us : List Value} {xs xs' : List (List V)} {cells : Array Value}, is.length = vs.length → VList tab g obj w vs us → (∀ r ∈ xs, r.length = sz) →
  CList tab g obj w xs.flatten cells.toList → fillA sz xs (is.zip vs) = some xs' →
  ∃ cells', Instr.fill (fun i => some (i * sz, sz)) cells (is.zip us) = some cells' ∧ (∀ r ∈ xs', r.length = sz) ∧ xs'.length = xs.length ∧ CList tab g obj w xs'.flatten cells'.toList
 | [], [], [], xs, xs', cells, _, _, hs, hd, h => by simp only [List.zip_nil_left, fillA, Qa] at h; subst h; exact ⟨cells, rfl, hs, rfl, hd⟩
 | i :: is, v :: vs, u :: us, xs, xs', cells, hl, hv, hs, hd, h => by
  simp only [VList] at hv
  simp only [List.zip_cons_cons, fillA] at h
  split at h
  ·rename_i c hcel
   split at h
   ·rename_i hcond
    obtain ⟨hdl, hi⟩ := hcond
    have hc := cel_rel hcel hv.1
    have hul := hc.length
    have hcl := hd.length
    rw [flatten_length hs] at hcl
    have hle : (i + 1) * sz ≤ xs.length * sz := Nat.mul_le_mul_right _ hi
    rw [Nat.add_mul] at hle
    have hsz : u.cells.size = sz := by simp at hul; omega
    have hcell : (u.cells.zipIdx.foldl (fun cs (c, j) => cs.setIfInBounds (i * sz + j) c) cells).toList = cells.toList.take (i * sz) ++ u.cells.toList ++ cells.toList.drop (i * sz + sz) := by
     rw [← Array.foldl_toList, Array.toList_zipIdx]
     have := foldl_set u.cells.toList (i * sz) cells (by simp at hcl hul ⊢; omega)
     rw [hul, hdl] at this
     simpa using this
    have hsl : ∀ r ∈ xs.set i c, r.length = sz := fun r hr => by
     rcases List.mem_or_eq_of_mem_set hr with h | h
     ·exact hs r h
     ·subst h; exact hdl
    obtain ⟨cells', k1, k2, k3, k4⟩ := fillA_rel (sz := sz) (is := is) (vs := vs) (us := us) (xs := xs.set i c) (xs' := xs') (cells := u.cells.zipIdx.foldl (fun cs (c, j) => cs.setIfInBounds (i * sz + j) c) cells)
     (by simpa using hl) hv.2 hsl (by
      rw [hcell, set_flatten' hs hdl hi]
      exact ((hd.take _).append hc).append (hd.drop _)) h
    refine ⟨cells', ?_, k2, by rw [k3]; simp, k4⟩
    simp only [List.zip_cons_cons, Instr.fill]
    have hno : (u.cells.size ≠ sz || decide (i * sz + u.cells.size > cells.size)) = false := by
     simp at hcl
     simp [hsz]; omega
    rw [hno]
    exact k1
   ·cases h
  ·cases h
 | [], _ :: _, _, _, _, _, hl, _, _, _, _ => by simp at hl
 | _ :: _, [], _, _, _, _, hl, _, _, _, _ => by simp at hl
 | [], [], _ :: _, _, _, _, _, hv, _, _, _ => by simp only [VList] at hv
 | _ :: _, _ :: _, [], _, _, _, _, hv, _, _, _ => by simp only [VList] at hv
theorem ok_bsa {t e : TypeId} {n : Nat} {ps : Array (Nat × Operand)} {z : V} {zd : List D} {as : List (Nat × A)} (ho : o.op = .buildSlice t n ps) (hu : P.underlying t = some (.slice e)) (hz : zeroOf P e = some z) (hzd : V.toDs z.cells = some zd)
  (hp : sliceParts P tab e ps.toList = some as) (hc : P.cellsOf e ≠ 0) (hzl : zd.length = P.cellsOf e) (hn : n * P.cellsOf e ≤ 16777216) : OkOp P tab o (.bsa (P.cellsOf e) n zd as) := by
 intro nt g get obj a w hR fresh r hf h K Q hK
 simp only [Cop.args, act] at h
 split at h
 ·rename_i xs h'
  simp only [Qa] at h
  subst h
  have hH := hR.heap
  obtain ⟨i, z0, hi, hz0, hcel, hzc, hzlen, _⟩ := zeroOf_rel (tab := tab) hz g obj w
  have hzd' : DList tab g.im w zd z0.cells.toList := toDs_rel hzd hzc.toV
  have hzs : z0.cells.size = P.cellsOf e := by have := hzd'.length; simp at this; omega
  obtain ⟨k1, k2⟩ := sliceParts_rel hp hR.tmp
  rw [zipI_map, zipI_zip] at h'
  have hrep : ∀ (n : Nat), (∀ r ∈ List.replicate n (ofDs zd), r.length = P.cellsOf e) ∧ CList tab g obj w (List.replicate n (ofDs zd)).flatten (List.replicate n z0.cells.toList).flatten := by
   intro n
   refine ⟨fun r hr => by rw [(List.mem_replicate.1 hr).2]; simp [ofDs, hzl], ?_⟩
   induction n with
   | zero => simp [CList]
   | succ n ih => simp only [List.replicate_succ, List.flatten_cons]; exact (CList.ofDs hzd').append ih
  have hinit := zero_rows z0.cells (by omega) n
  rw [hzs] at hinit
  obtain ⟨cells, m1, m2, m3, m4⟩ := fillA_rel (tab := tab) (g := g) (obj := obj) (w := w) (sz := P.cellsOf e) (is := as.map (·.1)) (vs := as.map fun p => evA get p.2) (us := ps.toList.map fun p => a.eval p.2) (xs := List.replicate n (ofDs zd)) (xs' := xs)
   (cells := (Array.range (n * P.cellsOf e)).map fun i => z0.cells[i % P.cellsOf e]!) (by simp) k2 (hrep n).1 (by rw [hinit]; exact (hrep n).2) h'
  rw [← k1, zip_fst_map] at m1
  have hxl : xs.length = n := by rw [m3]; simp
  obtain ⟨g', h1, h2⟩ := arr_new (tab := tab) (dr := w.drawn) (e := e) (id := fresh) (ver := 0) (cap := n) (rest := []) hH (.inl hf) m4 m2 (by omega) (by simp [hxl])
  have hwd : wd w w.drawn = w := rfl
  rw [hwd, List.append_nil] at h1 h2
  rw [hxl] at h2
  refine wp_value ?_ (hK g' _ _ h1 h2)
  simp only [execOp, ho, parts_map]
  have hlim : ¬ (16777216 < n * P.cellsOf e) := by omega
  have hzv : (zeroValue e).run P w = .ok z0 w := by simp [zeroValue, typeInfo, hi, hz0]
  have fin : ∀ zz : Array Value, ((Array.range (n * P.cellsOf e)).map fun i => zz[i % zz.size]!) = ((Array.range (n * P.cellsOf e)).map fun i => z0.cells[i % P.cellsOf e]!) →
    (match Instr.fill (fun i => some (i * P.cellsOf e, P.cellsOf e)) ((Array.range (n * P.cellsOf e)).map fun i => zz[i % zz.size]!) (ps.toList.map fun p => (p.1, a.eval p.2)) with
     | some cells => do
      let a ← newRow e cells
      pure (Value.slice (some a) n n)
     | _ => stuck "buildSlice: a part of the wrong size" : Sem Value).run P w = .ok (.slice (some ⟨w.heap.size, 0, none⟩) n n) (w.alloc (.cells cells.toList.toArray e)) := by
   intro zz hzz
   rw [hzz, m1]
   rfl
  have hrun : (Instr.buildSlice t n (ps.toList.map fun p => (p.1, a.eval p.2)).toArray).run P w = .ok (.slice (some ⟨w.heap.size, 0, none⟩) n n) (w.alloc (.cells cells.toList.toArray e)) := by
   unfold Instr.buildSlice
   simp only [Sem.run_bind, run_underlying hu, run_size hc, Result.andThen_ok, Nat.reducePow, gt_iff_lt, if_neg hlim, Sem.run_pure]
   by_cases h0 : n * P.cellsOf e = 0
   ·rw [if_pos h0]
    exact fin #[] (by rw [h0]; simp)
   ·rw [if_neg h0]
    simp only [Sem.run_bind, hzv, Result.andThen_ok, Sem.run_pure]
    exact fin z0.cells (by rw [hzs])
  simp only [Sem.run_bind, hrun, Result.andThen_ok, Sem.run_pure]
 ·cases h
end
open Go
open Go.RowKit (Below)
section
variable {P : Program} {tab : Tab} {o : Oper}
theorem builtin_sound {c : Call} {b : Builtin} {cop : Cop} (ho : o.op = .call c) (hcal : c.callee = .builtin b) {frz : Bool} (hc : compBuiltin P tab frz b c.args.toList c.argTypes.toList = some cop) : OkOp P tab o cop := by
 have hargs : ∀ (xs : Array Operand) (ts : Array TypeId), c.args = xs → c.argTypes = ts → o.op = .call { callee := .builtin b, args := xs, argTypes := ts } := by
  rintro _ _ rfl rfl
  rw [ho, ← hcal]
 have ar : ∀ {α : Type} (a : Array α) (l : List α), a.toList = l → a = l.toArray := fun a l h => by rw [← h]
 unfold compBuiltin at hc
 split at hc
 ·rename_i x t h1 h2
  have ho' := hargs _ _ (ar _ _ h1) (ar _ _ h2)
  split at hc
  ·rename_i hu; exact ok_len0 ho' hu hc
  ·rename_i hu; exact ok_len1 ho' hu hc
  ·rename_i hu; exact ok_len2 ho' hu hc
  ·cases hc
 ·rename_i x y t u h1 h2
  have ho' := hargs _ _ (ar _ _ h1) (ar _ _ h2)
  split at hc
  ·rename_i e hu
   split at hc
   ·rename_i hcond
    simp only [Qi, Qh] at hcond
    cases frz
    ·exact ok_app (ty := o.type) ho' hu hcond.1.1.1 hcond.1.1.2 hcond.1.2 hcond.2 hc
    ·exact ok_apa (ty := o.type) ho' hu hcond.1.1.1 hcond.1.1.2 hcond.1.2 hcond.2 hc
   ·split at hc
    ·rename_i hcond
     simp only [Qi, Qh] at hcond
     split at hc
     ·rename_i z hz
      split at hc
      ·rename_i zd hzd
       split at hc
       ·rename_i hl; exact ok_apz ho' hu hcond.1.1 hcond.1.2 hcond.2 hz hzd hl hc
       ·cases hc
      ·cases hc
     ·cases hc
    ·cases hc
  ·cases hc
 ·rename_i x t h1 h2
  have ho' := hargs _ _ (ar _ _ h1) (ar _ _ h2)
  split at hc
  ·rename_i e hu; exact ok_capn ho' hu hc
  ·cases hc
 ·split at hc
  ·split at hc
   ·rename_i as has
    simp only [Qa] at hc
    subst hc
    exact ok_mm (mx := true) ho hcal has
   ·cases hc
  ·cases hc
 ·split at hc
  ·split at hc
   ·rename_i as has
    simp only [Qa] at hc
    subst hc
    exact ok_mm (mx := false) ho hcal has
   ·cases hc
  ·cases hc
 ·rename_i m k t u h1 h2
  have ho' := hargs _ _ (ar _ _ h1) (ar _ _ h2)
  split at hc
  ·rename_i kt et hu
   split at hc
   ·rename_i ks hk; exact ok_del ho' hu hk hc
   ·cases hc
  ·cases hc
 ·cases hc
theorem of_not {b : Bool} (h : ¬ (!b) = true) : b = true := by cases b <;> simp_all
theorem okVar_of {t : TypeId} (h : P.cellsOf t ≠ 0 ∧ (isAggT P t = true ∨ P.cellsOf t = 1) ∧ (P.underlying t).isSome = true) : okVar P t := h
theorem ok_die : OkOp P tab o .die := by
 intro nt g get obj a w hR fresh r hf h
 simp [act] at h
theorem act_sound0 {frz : Bool} {fl : Nat} {cop : Cop} (h : compOp0 P tab frz fl o = some cop) (hn : cop.isCall = false) : OkOp P tab o cop := by
 unfold compOp0 at h
 split at h
 ·rename_i x ho
  cases frz
  ·exact ok_mv (.inl ho) h
  ·exact ok_frz (.inl ho) h
 ·rename_i x ho
  cases frz
  ·exact ok_mv (.inr ho) h
  ·exact ok_frz (.inr ho) h
 ·rename_i c a b ho
  split at h
  ·rename_i h1 h2 h3
   simp only [Qa] at h; subst h
   exact ok_pick ho h1 h2 h3
  ·cases h
 ·rename_i t ho
  split at h
  ·rename_i z hz
   simp only [Qa] at h; subst h
   exact ok_zero ho hz
  ·cases h
 ·rename_i t x ho; exact ok_box ho h
 ·rename_i t ps ho
  split at h
  ·rename_i fs z hu hz
   split at h
   ·cases h
   ·rename_i hall
    split at h
    ·rename_i as has
     simp only [Qa] at h; subst h
     exact ok_build_struct ho hu (of_not hall) hz has
    ·cases h
  ·rename_i n e z hu hz
   split at h
   ·cases h
   ·rename_i hall
    split at h
    ·rename_i as has
     simp only [Qa] at h; subst h
     exact ok_build_array ho hu (of_not hall) hz has
    ·cases h
  ·cases h
 ·rename_i t n ps ho
  split at h
  ·rename_i e hu
   split at h
   ·rename_i z hz
    split at h
    ·rename_i zd as hzd has
     split at h
     ·rename_i hc
      simp only [Qa] at h; subst h
      cases frz
      ·exact ok_bsl ho hu hz hzd has hc.1 hc.2.1 hc.2.2
      ·exact ok_bsa ho hu hz hzd has hc.1 hc.2.1 hc.2.2
     ·cases h
    ·cases h
   ·cases h
  ·cases h
 ·rename_i t a ho
  split at h
  ·rename_i hc; exact ok_ld ho (okVar_of hc) h
  ·cases h
 ·rename_i t a v ho
  split at h
  ·rename_i hc; exact ok_st ho hc h
  ·cases h
 ·rename_i x ho; exact ok_nilc ho h
 ·rename_i op t x y u ho
  split at h
  ·rename_i hc
   simp only [Qi] at hc
   have ht : P.underlying t = some .bool := by
    have := hc.1
    unfold isBoolT at this
    split at this
    ·assumption
    ·cases this
   exact ok_eqb ho ht hc.2 h
  ·split at h
   ·rename_i hc; exact ok_bin ho hc h
   ·split at h
    ·rename_i hc
     simp only [Qi, Bool.not_eq_true'] at hc
     split at h
     ·rename_i ks hk; exact ok_eqa ho hc.1.1 hc.1.2 hc.2 hk h
     ·cases h
    ·split at h
     ·rename_i hc
      simp only [Qi] at hc
      obtain ⟨e, ht⟩ : ∃ e, P.underlying t = some (.slice e) := by
       have := hc.1.2
       unfold isSliceT at this
       split at this
       ·exact ⟨_, by assumption⟩
       ·cases this
      exact ok_nils ho ht hc.1.1 hc.2 h
     ·split at h
      ·rename_i hc
       simp only [Qi] at hc
       exact ok_nilm ho hc.1.2 hc.1.1 hc.2 h
      ·cases h
 ·rename_i op t x ho
  split at h
  ·exact ok_un ho h
  ·cases h
 ·rename_i s t x ho
  split at h
  ·rename_i k hu
   split at h
   ·rename_i hs; exact ok_conv ho hu hs h
   ·cases h
  ·rename_i hu
   split at h
   ·rename_i hs; exact ok_convStr ho hu hs h
   ·split at h
    ·rename_i hs; exact ok_bts ho hu hs h
    ·cases h
  ·cases h
 ·rename_i f first cap ho
  split at h
  ·rename_i k c h1 h2 h3
   simp only [Qa] at h; subst h
   cases frz
   ·exact ok_mkf ho h1 h2 h3 rfl
   ·exact ok_mkf_frz ho h1 h2 h3 rfl
  ·cases h
 ·rename_i t r ho
  split at h
  ·rename_i k e hu
   simp only [Qa] at h; subst h
   exact ok_mkm (t := t) (k := k) (e := e) ho
  ·cases h
 ·rename_i t l c ho
  split at h
  ·rename_i e hu
   split at h
   ·rename_i z hz
    split at h
    ·rename_i zd hzd
     split at h
     ·rename_i hc; exact ok_mks ho hu hz hzd hc.1 hc.2.1 hc.2.2 h
     ·cases h
    ·cases h
   ·cases h
  ·cases h
 ·rename_i t x lo hi ho
  split at h
  ·rename_i a l h' h1 h2 h3
   split at h
   ·rename_i hu
    simp only [Qa] at h; subst h
    exact ok_sls ho hu h1 h2 h3
   ·rename_i e hu
    split at h
    ·rename_i hz
     simp only [Qa] at h; subst h
     exact ok_slc ho hu hz h1 h2 h3
    ·cases h
   ·cases h
  ·cases h
 ·rename_i t x f ho
  split at h
  ·rename_i fs hu
   split at h
   ·rename_i fl hf
    split at h
    ·rename_i hc; exact ok_fa ho hu hf hc.1 h
    ·cases h
   ·cases h
  ·cases h
 ·rename_i t x f ho
  split at h
  ·rename_i fs hu
   split at h
   ·rename_i fl hf
    split at h
    ·rename_i hc; exact ok_fl ho hu hf (okVar_of hc) h
    ·cases h
   ·cases h
  ·cases h
 ·rename_i t x i ho
  split at h
  ·rename_i e hu
   split at h
   ·rename_i hc; exact ok_ia ho hu hc h
   ·cases h
  ·rename_i n e hu
   split at h
   ·rename_i hc; exact ok_iaa ho hu hc h
   ·cases h
  ·cases h
 ·rename_i t x i ho
  split at h
  ·rename_i hu; exact ok_ixs ho hu h
  ·rename_i n e hu
   split at h
   ·rename_i hc; exact ok_ixa ho hu (okVar_of hc) h
   ·cases h
  ·cases h
 ·rename_i t m k ok ho
  split at h
  ·rename_i kt et hu
   split at h
   ·rename_i z hz
    split at h
    ·rename_i ks hk; exact ok_lk ho hu hz hk h
    ·cases h
   ·cases h
  ·cases h
 ·rename_i t m k x ho
  split at h
  ·rename_i kt et hu
   split at h
   ·rename_i ks m' k' x' h1 h2 h3 h4
    simp only [Qa] at h; subst h
    exact ok_mu (.inl ho) hu h1 h2 h3 h4
   ·cases h
  ·cases h
 ·rename_i t m k x ho
  split at h
  ·rename_i kt et hu
   split at h
   ·rename_i ks m' k' x' h1 h2 h3 h4
    simp only [Qa] at h; subst h
    exact ok_mu (.inr ho) hu h1 h2 h3 h4
   ·cases h
  ·cases h
 ·rename_i x i ho; exact ok_ext ho h
 ·rename_i c ho
  split at h
  ·rename_i b hcal; exact builtin_sound ho hcal h
  ·rename_i f hcal
   split at h
   ·rename_i k as h1 h2
    split at h
    ·simp only [Qa] at h; subst h
     cases hn
    ·split at h
     ·simp only [Qa] at h; subst h
      cases hn
     ·simp only [Qa] at h; subst h
      cases hn
   ·cases h
  ·rename_i x _ hcal
   split at h
   ·rename_i f as h1 h2
    simp only [Qa] at h; subst h
    cases hn
   ·cases h
  ·cases h
 ·cases h
theorem act_sound {fl : Nat} {cop : Cop} (h : compOp P tab fl o = some cop) (hn : cop.isCall = false) : OkOp P tab o cop := by
 unfold compOp at h
 split at h
 ·rename_i c hc
  simp only [Qa] at h
  subst h
  exact act_sound0 hc hn
 ·simp only [Qa] at h
  subst h
  exact ok_die
theorem enter_sound (hB : BodyOk P tab) {fl : Nat} {cop : Cop} (h0 : compOp P tab fl o = some cop) (hn : cop.isCall = true) {nt : Nat} {g : Gh} {get : Nat → V} {obj : Nat → Option Obj} {a : Act} {w : World} (hR : Rel tab nt g get obj a w)
  {key res : Nat} {args : List V} {fz : Md} (he : callee cop (cop.args.map (evA get)) = some (key, args, res, fz)) :
  ∃ us, VList tab g obj w args us ∧ ((∃ f, keyOf tab f = some key ∧ (execOp a.eval o).run P w = .ok (.enter f us.toArray) w) ∨
   ∃ l xs, (∃ R, rndOf tab key = some R) ∧ us = .func (.yield l) #[] #[] :: xs ∧ (execOp a.eval o).run P w = (Instr.yield l xs.toArray).run P w) := by
 have call1 : ∀ (c : Call) (f : FuncId) (k : Nat) (as : List A) (r : Nat) (z : Bool), o.op = .call c → c.callee = .value (.func f) → keyOf tab f = some k → compAs P tab (c.argTypes.toList.map some) c.args.toList = some as → cop = .call k as r z →
   ∃ f us, keyOf tab f = some key ∧ VList tab g obj w args us ∧ (execOp a.eval o).run P w = .ok (.enter f us.toArray) w := by
  rintro c f k as r z ho hcal hk hc rfl
  have hv := compAs_rel (w := w) hc hR.tmp
  simp only [Cop.args, callee, Qa, Qj] at he
  obtain ⟨rfl, rfl, rfl, rfl⟩ := he
  refine ⟨f, _, hk, hv, ?_⟩
  have hargs : (c.args.map a.eval) = (c.args.toList.map a.eval).toArray := by apply Array.ext'; simp
  simp [execOp, ho, resolve, hcal, Act.eval, Deferred.ofValue, invoke, hB f k hk, hargs]
 have call3 : ∀ (c : Call) (f : FuncId) (k : Nat) (as : List A), o.op = .call c → c.callee = .value (.func f) → keyOf tab f = some k → compAs P tab (c.argTypes.toList.map some) c.args.toList = some as → cop = .lend k as →
   ∃ f us, keyOf tab f = some key ∧ VList tab g obj w args us ∧ (execOp a.eval o).run P w = .ok (.enter f us.toArray) w := by
  rintro c f k as ho hcal hk hc rfl
  have hv := compAs_rel (w := w) hc hR.tmp
  simp only [Cop.args, callee, Qa, Qj] at he
  obtain ⟨rfl, rfl, rfl, rfl⟩ := he
  refine ⟨f, _, hk, hv, ?_⟩
  have hargs : (c.args.map a.eval) = (c.args.toList.map a.eval).toArray := by apply Array.ext'; simp
  simp [execOp, ho, resolve, hcal, Act.eval, Deferred.ofValue, invoke, hB f k hk, hargs]
 have call4 : ∀ (c : Call) (f : FuncId) (k : Nat) (as : List A) (r : Nat), o.op = .call c → c.callee = .value (.func f) → keyOf tab f = some k → compAs P tab (c.argTypes.toList.map some) c.args.toList = some as → cop = .callr k as r →
   ∃ f us, keyOf tab f = some key ∧ VList tab g obj w args us ∧ (execOp a.eval o).run P w = .ok (.enter f us.toArray) w := by
  rintro c f k as r ho hcal hk hc rfl
  have hv := compAs_rel (w := w) hc hR.tmp
  simp only [Cop.args, callee, Qa, Qj] at he
  obtain ⟨rfl, rfl, rfl, rfl⟩ := he
  refine ⟨f, _, hk, hv, ?_⟩
  have hargs : (c.args.map a.eval) = (c.args.toList.map a.eval).toArray := by apply Array.ext'; simp
  simp [execOp, ho, resolve, hcal, Act.eval, Deferred.ofValue, invoke, hB f k hk, hargs]
 have call2 : ∀ (c : Call) (x : Operand) (f : A) (as : List A) (r : Nat) (z : Bool), o.op = .call c → c.callee = .value x → compA P tab none x = some f → compAs P tab (c.argTypes.toList.map some) c.args.toList = some as → cop = .callv f as r z →
   ∃ us, VList tab g obj w args us ∧ ((∃ f, keyOf tab f = some key ∧ (execOp a.eval o).run P w = .ok (.enter f us.toArray) w) ∨
   ∃ l xs, (∃ R, rndOf tab key = some R) ∧ us = .func (.yield l) #[] #[] :: xs ∧ (execOp a.eval o).run P w = (Instr.yield l xs.toArray).run P w) := by
  rintro c x f as r z ho hcal hx hc rfl
  have hv := compAs_rel (w := w) hc hR.tmp
  have hxv := compA_rel (w := w) hx hR.tmp
  have hargs : (c.args.map a.eval) = (c.args.toList.map a.eval).toArray := by apply Array.ext'; simp
  simp only [Cop.args, Qb] at he
  generalize evA get f = fv at he hxv
  cases fv with
  | d d =>
   cases d with
   | f key' first cap =>
    simp only [callee, Qa, Qj] at he
    obtain ⟨rfl, rfl, rfl, rfl⟩ := he
    simp only [VRel, DRel] at hxv
    obtain ⟨fid, fs, cs, k1, k2, k3, k4⟩ := hxv
    refine ⟨fs ++ c.args.toList.map a.eval ++ cs, ((VList.ofDs (g := g) k3).append hv).append (VList.ofDs (g := g) k4), .inl ⟨fid, k1, ?_⟩⟩
    simp [execOp, ho, resolve, hcal, k2, Deferred.ofValue, invoke, hB fid key' k1, hargs]
   | _ => simp [callee] at he
  | fn key' first cap =>
   have hxv' := hxv
   simp only [VRel] at hxv
   rcases hxv with ⟨fid, fs, cs, k1, k2, k3, k4, k5⟩ | ⟨id, rfl, rfl, k2, jj, cc, k3⟩
   ·have he' : callee (.callv f as r z) (.fn key' first cap :: as.map (evA get)) = some (key', first ++ as.map (evA get) ++ cap, r, mdOf z) := by
     unfold callee
     split
     case h_5 heq1 heq2 => cases heq2; exact absurd rfl (k5 _)
     case h_6 heq1 heq2 => cases heq1; cases heq2; rfl
     all_goals first | (rename_i heq1 heq2; cases heq1; done) | (rename_i heq1 heq2; cases heq2; done) | skip
     rename_i hne
     exact absurd rfl (hne _ _ _ _ _ _ _ _ rfl)
    rw [he'] at he
    simp only [Qa, Qj] at he
    obtain ⟨rfl, rfl, rfl, rfl⟩ := he
    refine ⟨fs ++ c.args.toList.map a.eval ++ cs, (k3.append hv).append k4, .inl ⟨fid, k1, ?_⟩⟩
    simp [execOp, ho, resolve, hcal, k2, Deferred.ofValue, invoke, hB fid key' k1, hargs]
   ·simp only [callee, Qa, Qj] at he
    obtain ⟨rfl, rfl, rfl, rfl⟩ := he
    obtain ⟨rr, R, _, _, kR, _⟩ := hR.heap.ob id _ k3
    refine ⟨_ :: c.args.toList.map a.eval, by simp only [VList]; exact ⟨hxv', hv⟩, .inr ⟨_, _, ⟨R, kR⟩, by rw [k2], ?_⟩⟩
    simp [execOp, ho, resolve, hcal, k2, Deferred.ofValue, invoke, hargs]
  | _ => simp [callee] at he
 have h : compOp0 P tab (decide (fl ≠ 0)) fl o = some cop := by
  unfold compOp at h0
  split at h0
  ·rename_i c hc
   rw [hc]; exact h0
  ·simp only [Qa] at h0
   subst h0
   cases hn
 generalize decide (fl ≠ 0) = frz at h
 clear h0
 unfold compOp0 at h
 split at h
 case h_26 c ho =>
  split at h
  ·rename_i b hcal
   exfalso
   unfold compBuiltin at h
   (repeat' split at h) <;> first | (cases h; done) | (simp only [Qa] at h; subst h; cases hn; done) | (obtain ⟨_, _, rfl⟩ := un1_rel h; cases hn; done) | (obtain ⟨_, _, _, _, rfl⟩ := bi2_rel h; cases hn; done)
  ·rename_i f hcal
   split at h
   ·rename_i k as h1 h2
    split at h
    ·simp only [Qa] at h
     exact (call3 c f k as ho hcal h1 h2 h.symm).elim fun f ⟨us, q1, q2, q3⟩ => ⟨us, q2, .inl ⟨f, q1, q3⟩⟩
    ·split at h
     ·simp only [Qa] at h
      exact (call4 c f k as _ ho hcal h1 h2 h.symm).elim fun f ⟨us, q1, q2, q3⟩ => ⟨us, q2, .inl ⟨f, q1, q3⟩⟩
     ·simp only [Qa] at h
      exact (call1 c f k as _ _ ho hcal h1 h2 h.symm).elim fun f ⟨us, q1, q2, q3⟩ => ⟨us, q2, .inl ⟨f, q1, q3⟩⟩
   ·cases h
  ·rename_i x _ hcal
   split at h
   ·rename_i f as h1 h2
    simp only [Qa] at h
    exact call2 c x f as _ _ ho hcal h1 h2 h.symm
   ·cases h
  ·cases h
 all_goals exfalso
 all_goals ((repeat' split at h) <;> first | (cases h; done) | (simp only [Qa] at h; subst h; cases hn; done) | (obtain ⟨_, _, rfl⟩ := un1_rel h; cases hn; done) | (obtain ⟨_, _, _, _, rfl⟩ := bi2_rel h; cases hn; done))
end
open Go
open Go.RowKit (Below)
theorem placeOf_get : ∀ {L : List Nat} {i : Nat}, i ∈ L → L[placeOf L i]? = some i
 | x :: r, i, h => by
  simp only [placeOf]
  split
  ·rename_i e; subst e; rfl
  ·rename_i e
   rcases List.mem_cons.1 h with h | h
   ·exact absurd h.symm e
   ·simpa using placeOf_get h
theorem placeOf_lt {L : List Nat} {i : Nat} (h : i ∈ L) : placeOf L i < L.length := by
 have := placeOf_get h
 rcases Qn (placeOf L i) L.length with h | h
 ·exact h
 ·rw [Qe h] at this; cases this
theorem nodup_get {L : List Nat} (h : L.Nodup) {i j x : Nat} (hi : L[i]? = some x) (hj : L[j]? = some x) : i = j := by
 obtain ⟨h1, h2⟩ := List.getElem?_eq_some_iff.1 hi
 obtain ⟨h3, h4⟩ := List.getElem?_eq_some_iff.1 hj
 exact (List.nodup_iff_pairwise_ne.1 h |> fun hp => by
  rcases Nat.lt_trichotomy i j with hlt | rfl | hlt
  ·exact absurd (h2.trans h4.symm) (List.pairwise_iff_getElem.1 hp i j h1 h3 hlt)
  ·rfl
  ·exact absurd (h4.trans h2.symm) (List.pairwise_iff_getElem.1 hp j i h3 h1 hlt))
theorem placeOf_at {L : List Nat} (h : L.Nodup) {i x : Nat} (hi : L[i]? = some x) : placeOf L x = i :=
 nodup_get h (placeOf_get (List.mem_of_getElem? hi)) hi
section
variable {obj : Nat → Option Obj}
theorem reach_ok : ∀ (f : Nat) (todo done L : List Nat), reach obj f todo done = some L → done.Nodup →
  (∀ i ∈ done, ∀ j ∈ Obj.refs (obj i), j ∈ done ∨ j ∈ todo) →
  (∃ more, L = done ++ more) ∧ L.Nodup ∧ (∀ i ∈ todo, i ∈ L) ∧ (∀ i ∈ L, ∀ j ∈ Obj.refs (obj i), j ∈ L)
 | f, [], done, L, h, hn, hc => by
  simp only [reach, Qa] at h
  subst h
  exact ⟨⟨[], by simp⟩, hn, by simp, fun i hi j hj => by have := hc i hi j hj; simpa using this⟩
 | 0, _ :: _, done, L, h, hn, hc => by simp [reach] at h
 | f + 1, i :: r, done, L, h, hn, hc => by
  simp only [reach] at h
  split at h
  ·rename_i hin
   have hin : i ∈ done := by simpa using hin
   obtain ⟨k1, k2, k3, k4⟩ := reach_ok f r done L h hn (fun a ha j hj => by
    rcases hc a ha j hj with h | h
    ·exact .inl h
    ·rcases List.mem_cons.1 h with h | h
     ·subst h; exact .inl hin
     ·exact .inr h)
   refine ⟨k1, k2, fun a ha => ?_, k4⟩
   rcases List.mem_cons.1 ha with h | h
   ·subst h
    obtain ⟨m, rfl⟩ := k1
    exact List.mem_append.2 (.inl hin)
   ·exact k3 a h
  ·rename_i hin
   have hin : i ∉ done := by simpa using hin
   obtain ⟨⟨m, k1⟩, k2, k3, k4⟩ := reach_ok f (r ++ Obj.refs (obj i)) (done ++ [i]) L h
    (by rw [List.nodup_append]; exact ⟨hn, by simp, fun a ha b hb => by simp only [List.mem_singleton] at hb; subst hb; intro e; subst e; exact hin ha⟩)
    (fun a ha j hj => by
     rcases List.mem_append.1 ha with h | h
     ·rcases hc a h j hj with h | h
      ·exact .inl (List.mem_append.2 (.inl h))
      ·rcases List.mem_cons.1 h with h | h
       ·subst h; exact .inl (by simp)
       ·exact .inr (List.mem_append.2 (.inl h))
     ·simp only [List.mem_singleton] at h
      subst h
      exact .inr (List.mem_append.2 (.inr hj)))
   refine ⟨⟨[i] ++ m, by rw [k1, List.append_assoc]⟩, k2, fun a ha => ?_, k4⟩
   rcases List.mem_cons.1 ha with h | h
   ·subst h; rw [k1]; simp
   ·exact k3 a (List.mem_append.2 (.inl h))
theorem reach_congr {obj' : Nat → Option Obj} : ∀ (f : Nat) (todo done L : List Nat), reach obj' f todo done = some L → (∀ i ∈ L, obj i = obj' i) → (∀ i ∈ done, ∀ L', reach obj' f todo done = some L' → i ∈ L') → reach obj f todo done = some L
 | f, [], done, L, h, hL, _ => by simpa only [reach] using h
 | 0, _ :: _, done, L, h, hL, _ => by simp [reach] at h
 | f + 1, i :: r, done, L, h, hL, hd => by
  simp only [reach] at h ⊢
  split at h
  ·rename_i hin
   rw [if_pos hin]
   exact reach_congr f r done L h hL (fun a ha L' hL' => hd a ha L' (by simp only [reach]; rw [if_pos hin]; exact hL'))
  ·rename_i hin
   rw [if_neg hin]
   have pre : ∀ (f : Nat) (todo done L : List Nat), reach obj' f todo done = some L → ∃ m, L = done ++ m := by
    intro f
    induction f with
    | zero => intro todo done L h; cases todo with | nil => simp only [reach, Qa] at h; subst h; exact ⟨[], by simp⟩ | cons => simp [reach] at h
    | succ f ih =>
     intro todo done L h
     cases todo with
     | nil => simp only [reach, Qa] at h; subst h; exact ⟨[], by simp⟩
     | cons x todo =>
      simp only [reach] at h
      split at h
      ·exact ih _ _ _ h
      ·obtain ⟨m, hm⟩ := ih _ _ _ h
       exact ⟨[x] ++ m, by rw [hm, List.append_assoc]⟩
   have hi : i ∈ L := by
    obtain ⟨m, hm⟩ := pre _ _ _ _ h
    rw [hm]; simp
   rw [hL i hi]
   exact reach_congr f _ _ L h hL (fun a ha L' hL' => by
    obtain ⟨m, hm⟩ := pre _ _ _ _ hL'
    rw [hm]; exact List.mem_append.2 (.inl ha))
theorem reach_range : ∀ (n f k : Nat) (rest L : List Nat), reach obj f (List.range' k n ++ rest) (List.range k) = some L → ∃ more, L = List.range (k + n) ++ more
 | 0, f, k, rest, L, h => by
  simp only [List.range'_zero, List.nil_append] at h
  have pre : ∀ (f : Nat) (todo done L : List Nat), reach obj f todo done = some L → ∃ m, L = done ++ m := by
   intro f
   induction f with
   | zero => intro todo done L h; cases todo with | nil => simp only [reach, Qa] at h; subst h; exact ⟨[], by simp⟩ | cons => simp [reach] at h
   | succ f ih =>
    intro todo done L h
    cases todo with
    | nil => simp only [reach, Qa] at h; subst h; exact ⟨[], by simp⟩
    | cons x todo =>
     simp only [reach] at h
     split at h
     ·exact ih _ _ _ h
     ·obtain ⟨m, hm⟩ := ih _ _ _ h
      exact ⟨[x] ++ m, by rw [hm, List.append_assoc]⟩
  simpa using pre _ _ _ _ h
 | n + 1, 0, k, rest, L, h => by simp [List.range'_succ, reach] at h
 | n + 1, f + 1, k, rest, L, h => by
  rw [List.range'_succ] at h
  simp only [List.cons_append, reach] at h
  rw [if_neg (by simp)] at h
  rw [List.append_assoc, show List.range k ++ [k] = List.range (k + 1) from (List.range_succ ..).symm] at h
  have := reach_range n f (k + 1) _ L h
  rwa [show k + 1 + n = k + (n + 1) by omega] at this
end
theorem renObjs_ok {f sh : Nat → Nat} : ∀ (os : List (Option Obj)) (k : Nat) (os' : List (Option Obj)), renObjs f sh k os = some os' → os'.length = os.length ∧ ∀ i, i < os.length → ∃ o, os[i]? = some (some o) ∧ os'[i]? = some (some (Obj.ren f sh (sh (k + i)) o))
 | [], k, os', h => by
  simp only [renObjs, Qa] at h
  subst h
  exact ⟨rfl, fun i hi => by simp at hi⟩
 | none :: r, k, os', h => by simp [renObjs] at h
 | some o :: r, k, os', h => by
  simp only [renObjs] at h
  split at h
  ·rename_i r' hr'
   simp only [Qa] at h
   subst h
   obtain ⟨k1, k2⟩ := renObjs_ok r (k + 1) r' hr'
   refine ⟨by simp [k1], fun i hi => ?_⟩
   cases i with
   | zero => exact ⟨o, rfl, rfl⟩
   | succ i =>
    obtain ⟨o', m1, m2⟩ := k2 i (by simpa using hi)
    refine ⟨o', by simpa using m1, ?_⟩
    rw [show k + (i + 1) = k + 1 + i by omega]
    simpa using m2
  ·cases h
section
variable {tab : Tab} {g g2 : Gh} {obj obj2 : Nat → Option Obj} {w : World} {f sh : Nat → Nat}
def Corr (g g2 : Gh) (obj obj2 : Nat → Option Obj) (f sh : Nat → Nat) (i : Nat) : Prop := ∀ o, obj i = some o → obj2 (f i) = some (Obj.ren f sh (sh i) o) ∧ g2.at_ (f i) = g.at_ i
theorem renAll_length : ∀ (cs : List V), (V.renAll f sh cs).length = cs.length
 | [] => rfl
 | c :: cs => by simp [V.renAll, renAll_length cs]
theorem renRows_length : ∀ (xs : List (List V)), (renRows f sh xs).length = xs.length
 | [] => rfl
 | r :: rs => by simp [renRows, renRows_length rs]
theorem renAll_eq : ∀ (xs : List V), V.renAll f sh xs = xs.map (V.ren f sh)
 | [] => rfl
 | r :: rs => by simp [V.renAll, renAll_eq rs]
theorem renRows_eq : ∀ (xs : List (List V)), renRows f sh xs = xs.map (V.renAll f sh)
 | [] => rfl
 | r :: rs => by simp [renRows, renRows_eq rs]
theorem mem_refsAll : ∀ {xs : List V} {x : V} {i : Nat}, x ∈ xs → i ∈ V.refs x → i ∈ V.refsAll xs
 | y :: xs, x, i, h, hi => by
  simp only [V.refsAll, List.mem_append]
  rcases List.mem_cons.1 h with rfl | h
  ·exact .inl hi
  ·exact .inr (mem_refsAll h hi)
theorem mem_refsRows : ∀ {xs : List (List V)} {r : List V} {i : Nat}, r ∈ xs → i ∈ V.refsAll r → i ∈ refsRows xs
 | y :: xs, x, i, h, hi => by
  simp only [refsRows, List.mem_append]
  rcases List.mem_cons.1 h with rfl | h
  ·exact .inl hi
  ·exact .inr (mem_refsRows h hi)
theorem ren_map {a : List V} {i : Nat} (h : V.renAll f sh a = [.map i]) : ∃ j, a = [.map j] := by
 match a with
 | [] => simp [V.renAll] at h
 | x :: y :: t => simp [V.renAll] at h
 | [x] =>
  simp only [V.renAll, List.cons.injEq, and_true] at h
  cases x with
  | map j => exact ⟨j, rfl⟩
  | _ => simp [V.ren] at h
mutual
theorem VRel.ren (hi : g2.im = g.im) : ∀ (x : V) (v : Value), (∀ i ∈ V.refs x, Corr g g2 obj obj2 f sh i) → VRel tab g obj w x v → VRel tab g2 obj2 w (V.ren f sh x) v
 | .d x, v, hc, h => by simp only [V.ren, VRel] at *; rw [hi]; exact h
 | .nil _, v, hc, h => by simp only [V.ren, VRel] at *; exact h
 | .own id ver sz xs, v, hc, h => by
  simp only [V.ren, VRel] at *
  obtain ⟨h1, v1, s1, h2, h3, h4⟩ := h
  obtain ⟨k1, k2⟩ := hc id (by simp [V.refs]) _ h2
  refine ⟨by rw [hi]; exact h1, v1 + sh id, s1, k1, by omega, fun e => ?_⟩
  rw [k2]
  exact h4 (by omega)
 | .arr id ver off len, v, hc, h => by
  simp only [V.ren, VRel] at *
  obtain ⟨h0, v1, s1, xs, h2, h3, h4⟩ := h
  obtain ⟨k1, k2⟩ := hc id (by simp [V.refs]) _ h2
  refine ⟨h0, v1, s1, _, k1, h3, fun e => ?_⟩
  rw [k2, renRows_length]
  exact h4 e
 | .ptr id off, v, hc, h => by
  simp only [V.ren, VRel] at *
  obtain ⟨h1, h2⟩ := h
  rcases h1 with ⟨cs, h1⟩ | ⟨ds, h1⟩
  ·obtain ⟨k1, k2⟩ := hc id (by simp [V.refs]) _ h1
   exact ⟨.inl ⟨_, k1⟩, by rw [k2]; exact h2⟩
  ·obtain ⟨k1, k2⟩ := hc id (by simp [V.refs]) _ h1
   exact ⟨.inr ⟨_, k1⟩, by rw [k2]; exact h2⟩
 | .pm id ver idx off, v, hc, h => by
  simp only [V.ren, VRel] at *
  obtain ⟨h0, v1, s1, xs, h2, h3, h4⟩ := h
  obtain ⟨k1, k2⟩ := hc id (by simp [V.refs]) _ h2
  refine ⟨h0, v1, s1, _, k1, h3, fun e => ?_⟩
  rw [k2]
  exact h4 e
 | .map id, v, hc, h => by
  simp only [V.ren, VRel] at *
  obtain ⟨⟨kvs, h1⟩ | ⟨kvs, h1⟩, h2⟩ := h
  ·obtain ⟨k1, k2⟩ := hc id (by simp [V.refs]) _ h1
   exact ⟨.inl ⟨_, k1⟩, by rw [k2]; exact h2⟩
  ·obtain ⟨k1, k2⟩ := hc id (by simp [V.refs]) _ h1
   exact ⟨.inr ⟨_, k1⟩, by rw [k2]; exact h2⟩
 | .fn key a c, v, hc, h => by
  simp only [V.refs, List.mem_append] at hc
  simp only [V.ren, VRel] at *
  rcases h with ⟨fid, fs, cs, h1, h2, h3, h4, h5⟩ | ⟨id, h1, h2, h3, j, caps, h4⟩
  ·exact .inl ⟨fid, fs, cs, h1, h2, VList.ren hi a fs (fun i hi => hc i (.inl hi)) h3, VList.ren hi c cs (fun i hi => hc i (.inr hi)) h4, fun i e => let ⟨j, e'⟩ := ren_map e; h5 j e'⟩
  ·obtain ⟨k1, k2⟩ := hc id (.inl (by rw [h1]; simp [V.refsAll, V.refs])) _ h4
   exact .inr ⟨f id, by rw [h1]; simp [V.renAll, V.ren], by rw [h2]; simp [V.renAll], by rw [k2]; exact h3, j, _, k1⟩
 | .agg cs, v, hc, h => by
  simp only [V.refs] at hc
  simp only [V.ren, VRel] at *
  obtain ⟨vs, h1, h2⟩ := h
  exact ⟨vs, h1, CList.ren hi cs vs hc h2⟩
 | .tup ws, v, hc, h => by
  simp only [V.refs] at hc
  simp only [V.ren, VRel] at *
  obtain ⟨vs, h1, h2⟩ := h
  exact ⟨vs, h1, VList.ren hi ws vs hc h2⟩
 | .bad, v, _, _ => by simp only [V.ren, VRel]
theorem VList.ren (hi : g2.im = g.im) : ∀ (xs : List V) (vs : List Value), (∀ i ∈ V.refsAll xs, Corr g g2 obj obj2 f sh i) → VList tab g obj w xs vs → VList tab g2 obj2 w (V.renAll f sh xs) vs
 | [], [], _, _ => by simp only [V.renAll, VList]
 | x :: xs, v :: vs, hc, h => by
  simp only [V.refsAll, List.mem_append] at hc
  simp only [V.renAll, VList] at *
  exact ⟨VRel.ren hi x v (fun i hi => hc i (.inl hi)) h.1, VList.ren hi xs vs (fun i hi => hc i (.inr hi)) h.2⟩
 | [], _ :: _, _, h => by simp only [VList] at h
 | _ :: _, [], _, h => by simp only [VList] at h
theorem CList.ren (hi : g2.im = g.im) : ∀ (xs : List V) (vs : List Value), (∀ i ∈ V.refsAll xs, Corr g g2 obj obj2 f sh i) → CList tab g obj w xs vs → CList tab g2 obj2 w (V.renAll f sh xs) vs
 | [], [], _, _ => by simp only [V.renAll, CList]
 | x :: xs, v :: vs, hc, h => by
  simp only [V.refsAll, List.mem_append] at hc
  simp only [V.renAll, CList] at *
  exact ⟨VRel.ren hi x v (fun i hi => hc i (.inl hi)) h.1, h.2.1, CList.ren hi xs vs (fun i hi => hc i (.inr hi)) h.2.2⟩
 | [], _ :: _, _, h => by simp only [CList] at h
 | _ :: _, [], _, h => by simp only [CList] at h
end
theorem EList.ren (hi : g2.im = g.im) : ∀ (xs : List (List D × V)) (vs : List MapEntry), (∀ i ∈ refsKvs xs, Corr g g2 obj obj2 f sh i) → EList tab g obj w xs vs → EList tab g2 obj2 w (renKvs f sh xs) vs
 | [], [], _, _ => by simp only [renKvs, EList]
 | (k, x) :: xs, v :: vs, hc, h => by
  simp only [refsKvs, List.mem_append] at hc
  simp only [renKvs, EList] at *
  rw [hi]
  exact ⟨h.1, VRel.ren hi x v.val (fun i hi => hc i (.inl hi)) h.2.1, EList.ren hi xs vs (fun i hi => hc i (.inr hi)) h.2.2⟩
 | [], _ :: _, _, h => by simp only [EList] at h
 | (_, _) :: _, [], _, h => by simp only [EList] at h
theorem MRel.ren (hi : g2.im = g.im) {kvs : List (List D × V)} {es : List MapEntry} {cl : Nat} (hc : ∀ i ∈ refsKvs kvs, Corr g g2 obj obj2 f sh i) (h : MRel tab g obj w kvs es cl) : MRel tab g2 obj2 w (renKvs f sh kvs) es cl := by
 obtain ⟨kv, hp, hn, hb, hd, h2⟩ := h
 have e : ∀ l : List (List D × V), renKvs f sh l = l.map fun p => (p.1, V.ren f sh p.2) := by
  intro l
  induction l with
  | nil => rfl
  | cons p l ih => obtain ⟨k, v⟩ := p; simp only [renKvs, ih, Qb]
 have m : ∀ l : List (List D × V), ∀ i, i ∈ refsKvs l ↔ ∃ p ∈ l, i ∈ V.refs p.2 := by
  intro l
  induction l with
  | nil => intro i; simp [refsKvs]
  | cons p l ih => intro i; obtain ⟨k, v⟩ := p; simp [refsKvs, ih]
 refine ⟨renKvs f sh kv, ?_, ?_, hb, hd, EList.ren hi kv _ (fun i hi' => hc i ?_) h2⟩
 ·rw [e, e]; exact hp.map _
 ·rw [e, List.map_map]; exact hn
 ·obtain ⟨p, h3, h4⟩ := (m kv i).1 hi'
  exact (m kvs i).2 ⟨p, hp.mem_iff.1 h3, h4⟩
theorem ORel.ren (hi : g2.im = g.im) {p : Place} {o : Obj} {s : Nat} (hc : ∀ i ∈ Obj.refs (some o), Corr g g2 obj obj2 f sh i) (h : ORel tab g obj w p o) : ORel tab g2 obj2 w p (Obj.ren f sh s o) := by
 cases o with
 | box cs =>
  obtain ⟨h1, us, h2, h3⟩ := h
  exact ⟨by rw [renAll_length]; exact h1, us, CList.ren hi cs us hc h2, h3⟩
 | cst ds => simp only [Obj.ren, ORel] at *; rw [hi]; exact h
 | tok v sz => exact h
 | arr v sz xs =>
  obtain ⟨h1, h2, h3, h4⟩ := h
  refine ⟨fun r hr => ?_, by rw [renRows_length]; exact h2, h3, fun i r q x h5 h6 => ?_⟩
  ·rw [renRows_eq] at hr
   obtain ⟨r', k1, rfl⟩ := List.mem_map.1 hr
   rw [renAll_length]; exact h1 r' k1
  ·rw [renRows_eq, List.getElem?_map] at h5
   obtain ⟨r', k1, rfl⟩ := Option.map_eq_some_iff.1 h5
   rw [renAll_eq, List.getElem?_map] at h6
   obtain ⟨x', k2, rfl⟩ := Option.map_eq_some_iff.1 h6
   obtain ⟨u, k3, k4, k5⟩ := h4 i r' q x' k1 k2
   exact ⟨u, k3, VRel.ren hi x' u (fun j hj => hc j (mem_refsRows (List.mem_of_getElem? k1) (mem_refsAll (List.mem_of_getElem? k2) hj))) k4, k5⟩
 | map kvs => obtain ⟨es, cl, h1, h2⟩ := h; exact ⟨es, cl, h1, MRel.ren hi hc h2⟩
 | cmap kvs => obtain ⟨hm, es, cl, h1, h2⟩ := h; exact ⟨by rw [hi]; exact hm, es, cl, h1, MRel.ren hi hc h2⟩
 | lp j key caps =>
  obtain ⟨r, R, h1, h2, h3, h4, h5, h6, h7, h8, h9⟩ := h
  exact ⟨r, R, h1, h2, h3, h4, h5, h6, h7, h8, VList.ren hi caps _ hc h9⟩
theorem ren_isMap (o : Obj) (s : Nat) : (∃ kvs, Obj.ren f sh s o = .map kvs) ↔ ∃ kvs, o = .map kvs := by
 cases o <;> simp [Obj.ren]
theorem owns_ren {i j s : Nat} {o : Obj} (h1 : obj i = some o) (h2 : obj2 j = some (Obj.ren f sh s o)) (h3 : g2.at_ j = g.at_ i) (b q : Nat) : owns g2 obj2 j b q ↔ owns g obj i b q := by
 unfold owns
 rw [h1, h2, h3]
 cases o <;> exact Iff.rfl
theorem mapOf_ren {i j s : Nat} {o : Obj} (h1 : obj i = some o) (h2 : obj2 j = some (Obj.ren f sh s o)) (h : ∀ kvs, obj2 j ≠ some (.map kvs)) : ∀ kvs, obj i ≠ some (.map kvs) := by
 rw [h1]; rw [h2] at h
 cases o with
 | map kvs => exact absurd rfl (h _)
 | _ => simp
theorem hrel_sub1 (hH : HRel tab g obj w) {L : List Nat} (hn : L.Nodup) (hcl : ∀ i ∈ L, ∀ j ∈ Obj.refs (obj i), j ∈ L) {h : List (Option Obj)} (hr : renObjs (placeOf L) noShift 0 (L.map obj) = some h) :
  HRel tab ⟨fun i => g.at_ (L.getD i 0), g.im⟩ (objOf h) w ∧ (∀ i ∈ L, Corr g ⟨fun i => g.at_ (L.getD i 0), g.im⟩ obj (objOf h) (placeOf L) noShift i) ∧
   h.length = L.length ∧ (∀ k i, L[k]? = some i → ∃ o, obj i = some o ∧ objOf h k = some (Obj.ren (placeOf L) noShift 0 o)) ∧
   (∀ k b q, owns ⟨fun i => g.at_ (L.getD i 0), g.im⟩ (objOf h) k b q → ∃ i, L[k]? = some i ∧ owns g obj i b q) := by
 obtain ⟨hlen, hget⟩ := renObjs_ok _ _ _ hr
 simp only [Qf] at hlen hget
 have ob : ∀ k i, L[k]? = some i → ∃ o, obj i = some o ∧ objOf h k = some (Obj.ren (placeOf L) noShift 0 o) := fun k i hk => by
  obtain ⟨hlt, _⟩ := List.getElem?_eq_some_iff.1 hk
  obtain ⟨o, h1, h2⟩ := hget k hlt
  rw [List.getElem?_map, hk] at h1
  simp only [Option.map_some, Qa] at h1
  exact ⟨o, h1, by unfold objOf; rw [h2]; rfl⟩
 have at1 : ∀ k i, L[k]? = some i → g.at_ (L.getD k 0) = g.at_ i := fun k i hk => by rw [List.getD_eq_getElem?_getD, hk]; rfl
 have back : ∀ k o, objOf h k = some o → ∃ i o', L[k]? = some i ∧ obj i = some o' ∧ o = Obj.ren (placeOf L) noShift 0 o' := fun k o hk => by
  rcases Qn k L.length with hlt | hge
  ·have hk' : L[k]? = some L[k] := Qd hlt
   obtain ⟨o', h1, h2⟩ := ob k _ hk'
   rw [h2] at hk
   exact ⟨_, o', hk', h1, (Option.some.inj hk).symm⟩
  ·unfold objOf at hk
   rw [Qe (by omega)] at hk; cases hk
 have corr : ∀ i ∈ L, Corr g ⟨fun i => g.at_ (L.getD i 0), g.im⟩ obj (objOf h) (placeOf L) noShift i := fun i hi o ho => by
  have hp := placeOf_get hi
  obtain ⟨o', h1, h2⟩ := ob _ _ hp
  rw [ho] at h1; cases h1
  exact ⟨h2, at1 _ _ hp⟩
 have own : ∀ k b q, owns ⟨fun i => g.at_ (L.getD i 0), g.im⟩ (objOf h) k b q → ∃ i, L[k]? = some i ∧ owns g obj i b q := fun k b q hk => by
  cases ho : objOf h k with
  | none => unfold owns at hk; rw [ho] at hk; exact hk.elim
  | some o =>
   obtain ⟨i, o', h1, h2, rfl⟩ := back k o ho
   exact ⟨i, h1, (owns_ren (g := g) (g2 := ⟨fun i => g.at_ (L.getD i 0), g.im⟩) h2 ho (at1 k i h1) b q).1 hk⟩
 refine ⟨⟨fun k o hk => ?_, fun k b q hk => ?_, fun k k' b q hk hk' => ?_, fun k b q hk => ?_, fun k b q hk hm => ?_, hH.imOld⟩, corr, hlen, ob, own⟩
 ·obtain ⟨i, o', h1, h2, rfl⟩ := back k o hk
  have := hH.ob i o' h2
  show ORel _ _ _ _ (g.at_ (L.getD k 0)) _
  rw [at1 k i h1]
  exact ORel.ren (g := g) (obj := obj) (g2 := ⟨fun i => g.at_ (L.getD i 0), g.im⟩) rfl (fun j hj => corr j (hcl i (List.mem_of_getElem? h1) j (by rw [h2]; exact hj))) this
 ·obtain ⟨i, h1, h2⟩ := own k b q hk
  exact hH.imm i b q h2
 ·obtain ⟨i, h1, h2⟩ := own k b q hk
  obtain ⟨i', h1', h2'⟩ := own k' b q hk'
  have := hH.one i i' b q h2 h2'
  subst this
  exact nodup_get hn h1 h1'
 ·obtain ⟨i, h1, h2⟩ := own k b q hk
  exact hH.old i b q h2
 ·obtain ⟨i, h1, h2⟩ := own k b q hk
  obtain ⟨o, h3, h4⟩ := ob k i h1
  exact hH.frz i b q h2 (mapOf_ren h3 h4 hm)
end
open Go
open Go.RowKit (Below)
section
variable {P : Program} {tab : Tab} {g : Gh} {obj : Nat → Option Obj} {w : World}
theorem hand_map {a : List V} {i : Nat} (h : V.handAll a = some [.map i]) : a = [.map i] := by
 match a with
 | [] => simp [V.handAll] at h
 | x :: t =>
  simp only [V.handAll] at h
  split at h
  ·rename_i x' xs h1 h2
   simp only [Qa, List.cons.injEq] at h
   obtain ⟨rfl, rfl⟩ := h
   have ht : t = [] := by
    cases t with
    | nil => rfl
    | cons y t =>
     simp only [V.handAll] at h2
     split at h2 <;> simp at h2
   subst ht
   cases x with
   | map j => simpa [V.hand] using h1
   | fn k a c => simp only [V.hand] at h1; (repeat' split at h1) <;> simp at h1
   | agg cs => simp only [V.hand] at h1; split at h1 <;> simp at h1
   | _ => simp [V.hand] at h1
  ·cases h
mutual
theorem hand_rel : ∀ (x y : V) (v : Value), V.hand x = some y → VRel tab g obj w x v → VRel tab g obj w y v
 | .d x, y, v, hh, h => by simp only [V.hand, Qa] at hh; subst hh; exact h
 | .nil sz, y, v, hh, h => by
  simp only [V.hand, Qa] at hh
  subst hh
  simp only [VRel, DRel] at *
  subst h
  exact ⟨none, 0, rfl, Nat.le_refl _, by simp, .inl trivial⟩
 | .own id ver sz xs, y, v, hh, h => by
  simp only [V.hand, Qa] at hh
  subst hh
  simp only [VRel] at *
  exact h.1
 | .fn key a c, y, v, hh, h => by
  simp only [V.hand] at hh
  split at hh
  ·rename_i a' c' h1 h2
   simp only [Qa] at hh
   subst hh
   simp only [VRel, DRel] at *
   rcases h with ⟨fid, fs, cs, k1, k2, k3, k4, _⟩ | ⟨id, k1, _⟩
   ·exact ⟨fid, fs, cs, k1, k2, toDs_rel h1 k3, toDs_rel h2 k4⟩
   ·rw [k1] at h1; simp [V.toDs, V.toD] at h1
  ·split at hh
   ·rename_i a' c' h1 h2
    simp only [Qa] at hh
    subst hh
    simp only [VRel] at *
    rcases h with ⟨fid, fs, cs, k1, k2, k3, k4, k5⟩ | ⟨id, k1, k2, k3⟩
    ·exact .inl ⟨fid, fs, cs, k1, k2, handAll_rel a a' fs h1 k3, handAll_rel c c' cs h2 k4, fun i e => k5 i (hand_map (by rw [h1, e]))⟩
    ·rw [k1] at h1
     rw [k2] at h2
     simp only [V.handAll, V.hand, Qa] at h1 h2
     exact .inr ⟨id, h1.symm, h2.symm, k3⟩
   ·cases hh
 | .agg cs, y, v, hh, h => by
  simp only [V.hand] at hh
  split at hh
  ·rename_i cs' h1
   simp only [Qa] at hh
   subst hh
   simp only [VRel] at *
   obtain ⟨vs, k1, k2⟩ := h
   exact ⟨vs, k1, handCells_rel cs cs' vs h1 k2⟩
  ·cases hh
 | .arr id ver off len, y, v, hh, h => by simp only [V.hand, Qa] at hh; subst hh; exact h
 | .ptr id off, y, v, hh, h => by simp only [V.hand, Qa] at hh; subst hh; exact h
 | .pm id ver idx off, y, v, hh, h => by simp only [V.hand, Qa] at hh; subst hh; exact h
 | .map id, y, v, hh, h => by simp only [V.hand, Qa] at hh; subst hh; exact h
 | .tup _, y, v, hh, h => by simp only [V.hand] at hh; cases hh
 | .bad, y, v, hh, h => by simp only [V.hand] at hh; cases hh
theorem handAll_rel : ∀ (xs ys : List V) (vs : List Value), V.handAll xs = some ys → VList tab g obj w xs vs → VList tab g obj w ys vs
 | [], ys, vs, hh, h => by simp only [V.handAll, Qa] at hh; subst hh; exact h
 | x :: xs, ys, [], hh, h => by simp only [VList] at h
 | x :: xs, ys, v :: vs, hh, h => by
  simp only [V.handAll] at hh
  split at hh
  ·rename_i y ys' h1 h2
   simp only [Qa] at hh
   subst hh
   simp only [VList] at *
   exact ⟨hand_rel x y v h1 h.1, handAll_rel xs ys' vs h2 h.2⟩
  ·cases hh
theorem handCells_rel : ∀ (xs ys : List V) (vs : List Value), V.handAll xs = some ys → CList tab g obj w xs vs → CList tab g obj w ys vs
 | [], ys, vs, hh, h => by simp only [V.handAll, Qa] at hh; subst hh; exact h
 | x :: xs, ys, [], hh, h => by simp only [CList] at h
 | x :: xs, ys, v :: vs, hh, h => by
  simp only [V.handAll] at hh
  split at hh
  ·rename_i y ys' h1 h2
   simp only [Qa] at hh
   subst hh
   simp only [CList] at *
   exact ⟨hand_rel x y v h1 h.1, h.2.1, handCells_rel xs ys' vs h2 h.2.2⟩
  ·cases hh
end
theorem updL_un {t : Nat} : ∀ (is : List Nat) (os : List (Option Obj)) (x : Nat → Option Obj), t ∉ is → updL x is os t = x t
 | [], _, _, _ => by simp [updL]
 | _ :: _, [], _, _ => by simp [updL]
 | i :: is, o :: os, x, h => by
  simp only [updL]
  simp only [List.mem_cons, not_or] at h
  rw [updL_un is os _ h.2, updO_ne _ _ h.1]
theorem updL_at : ∀ (is : List Nat) (os : List (Option Obj)) (x : Nat → Option Obj) (k i : Nat) (o : Option Obj), is.Nodup → is[k]? = some i → os[k]? = some o → updL x is os i = o
 | [], _, _, _, _, _, _, h, _ => by simp at h
 | _ :: _, [], _, _, _, _, _, _, h => by simp at h
 | a :: is, b :: os, x, 0, i, o, hn, h1, h2 => by
  simp only [List.getElem?_cons_zero, Qa] at h1 h2
  subst h1; subst h2
  simp only [updL]
  rw [updL_un is os _ (List.nodup_cons.1 hn).1, updO_same]
 | a :: is, b :: os, x, k + 1, i, o, hn, h1, h2 => by
  simp only [updL]
  exact updL_at is os _ k i o (List.nodup_cons.1 hn).2 (by simpa using h1) (by simpa using h2)
theorem merge_post (hH : HRel tab g obj w) {L : List Nat} (hn : L.Nodup) (hcl : ∀ i ∈ L, ∀ j ∈ Obj.refs (obj i), j ∈ L) {h : List (Option Obj)} (hr : renObjs (placeOf L) noShift 0 (L.map obj) = some h)
  {h' : List (Option Obj)} {fresh : Nat} {bk sh : Nat → Nat} (hbk : bk = fun i => if i < L.length then L.getD i 0 else fresh + (i - L.length)) (hsh : sh = fun i => if i < L.length then verOf (h.getD i none) else 0)
  {os : List (Option Obj)} (hos : renObjs bk sh 0 h' = some os) (hle : L.length ≤ os.length) (hfree : ∀ k, k < (os.drop L.length).length → obj (fresh + k) = none)
  {g' : Gh} {w' : World} (hH' : HRel tab g' (objOf h') w') (hE : Evo ⟨fun i => g.at_ (L.getD i 0), g.im⟩ (objOf h) w g' (objOf h') w') {r : V} {v : Value} (hrv : VRel tab g' (objOf h') w' r v) :
  ∃ g2, Post tab g obj w g2 (updL (updL obj L (os.take L.length)) (List.range' fresh (os.drop L.length).length) (os.drop L.length)) w' ∧
   VRel tab g2 (updL (updL obj L (os.take L.length)) (List.range' fresh (os.drop L.length).length) (os.drop L.length)) w' (V.ren bk sh r) v := by
 obtain ⟨hH1, hcor1, hhl, hob1, hown1⟩ := hrel_sub1 hH hn hcl hr
 obtain ⟨hlen', hget'⟩ := renObjs_ok _ _ _ hos
 generalize hm : L.length = m at *
 generalize hns : os.drop m = ns at *
 have hnl : ns.length = os.length - m := by rw [← hns]; simp
 generalize hobj2 : updL (updL obj L (os.take m)) (List.range' fresh ns.length) ns = obj2
 have hLsome : ∀ i ∈ L, ∃ o, obj i = some o := fun i hi => by
  obtain ⟨o, h1, _⟩ := hob1 _ _ (placeOf_get hi)
  exact ⟨o, h1⟩
 have hLfresh : ∀ i ∈ L, ∀ j, j < ns.length → i ≠ fresh + j := fun i hi j hj e => by
  obtain ⟨o, ho⟩ := hLsome i hi
  rw [e, hfree j hj] at ho; cases ho
 have bkL : ∀ k i, L[k]? = some i → bk k = i := fun k i hk => by
  obtain ⟨hlt, _⟩ := List.getElem?_eq_some_iff.1 hk
  rw [hbk]; simp only
  rw [if_pos (by omega), List.getD_eq_getElem?_getD, hk]; rfl
 have bkF : ∀ k, m ≤ k → bk k = fresh + (k - m) := fun k hk => by rw [hbk]; simp only; rw [if_neg (by omega)]
 have o2L : ∀ k i, L[k]? = some i → ∃ o, os[k]? = some o ∧ obj2 i = o := fun k i hk => by
  obtain ⟨hlt, _⟩ := List.getElem?_eq_some_iff.1 hk
  have hk2 : os[k]? = some os[k] := Qd (by omega)
  refine ⟨_, hk2, ?_⟩
  rw [← hobj2, updL_un _ _ _ (fun hmem => ?_)]
  ·exact updL_at L _ obj k i _ hn hk (by rw [List.getElem?_take, if_pos (by omega)]; exact hk2)
  ·obtain ⟨j, hj, e⟩ := List.mem_range'.1 hmem
   rw [Nat.one_mul] at e
   exact hLfresh i (List.mem_of_getElem? hk) j hj e
 have o2F : ∀ k, k < ns.length → os[m + k]? = some (obj2 (fresh + k)) := fun k hk => by
  have hk2 : ns[k]? = some ns[k] := Qd hk
  have e1 : os[m + k]? = ns[k]? := by rw [← hns, List.getElem?_drop]
  rw [e1, hk2, ← hobj2]
  congr 1
  exact (updL_at (List.range' fresh ns.length) ns _ k (fresh + k) _ (List.nodup_range' ..) (by rw [List.getElem?_range' hk]; simp) hk2).symm
 have o2N : ∀ i, i ∉ L → ¬ (fresh ≤ i ∧ i < fresh + ns.length) → obj2 i = obj i := fun i h1 h2 => by
  rw [← hobj2, updL_un _ _ _ (fun hmem => ?_), updL_un _ _ _ h1]
  obtain ⟨j, hj, e⟩ := List.mem_range'.1 hmem
  exact h2 ⟨by omega, by omega⟩
 let g2 : Gh := ⟨fun i => if i ∈ L then g'.at_ (placeOf L i) else if fresh ≤ i ∧ i < fresh + ns.length then g'.at_ (m + (i - fresh)) else g.at_ i, g'.im⟩
 have a2L : ∀ k i, L[k]? = some i → g2.at_ i = g'.at_ k := fun k i hk => by
  show (if i ∈ L then g'.at_ (placeOf L i) else _) = _
  rw [if_pos (List.mem_of_getElem? hk), placeOf_at hn hk]
 have a2F : ∀ k, k < ns.length → g2.at_ (fresh + k) = g'.at_ (m + k) := fun k hk => by
  show (if fresh + k ∈ L then _ else if fresh ≤ fresh + k ∧ fresh + k < fresh + ns.length then g'.at_ (m + (fresh + k - fresh)) else _) = _
  rw [if_neg (fun h => hLfresh _ h k hk rfl), if_pos ⟨by omega, by omega⟩]
  congr 1; omega
 have a2N : ∀ i, i ∉ L → ¬ (fresh ≤ i ∧ i < fresh + ns.length) → g2.at_ i = g.at_ i := fun i h1 h2 => by
  show (if i ∈ L then _ else if fresh ≤ i ∧ i < fresh + ns.length then _ else g.at_ i) = _
  rw [if_neg h1, if_neg h2]
 have place : ∀ k o, objOf h' k = some o → obj2 (bk k) = some (Obj.ren bk sh (sh k) o) ∧ g2.at_ (bk k) = g'.at_ k := fun k o hk => by
  have hlt : k < h'.length := by
   rcases Qn k h'.length with h | h
   ·exact h
   ·unfold objOf at hk; rw [Qe h] at hk; cases hk
  obtain ⟨o', h1, h2⟩ := hget' k hlt
  have : o' = o := by
   unfold objOf at hk
   rw [h1] at hk
   exact Option.some.inj hk
  subst this
  rw [Nat.zero_add] at h2
  rcases Qn k m with hkm | hkm
  ·have hLk : L[k]? = some (L[k]'(by omega)) := Qd (by omega)
   rw [bkL k _ hLk]
   obtain ⟨o, m1, m2⟩ := o2L k _ hLk
   rw [h2] at m1
   exact ⟨by rw [m2]; exact (Option.some.inj m1).symm, a2L k _ hLk⟩
  ·have hkn : k - m < ns.length := by omega
   have e := o2F (k - m) hkn
   rw [show m + (k - m) = k by omega, h2] at e
   rw [bkF k hkm]
   refine ⟨(Option.some.inj e).symm, ?_⟩
   rw [a2F _ hkn, show m + (k - m) = k by omega]
 have corr : ∀ k, Corr g' g2 (objOf h') obj2 bk sh k := fun k o ho => place k o ho
 have cls : ∀ i o, obj2 i = some o → (∃ k o', objOf h' k = some o' ∧ bk k = i ∧ o = Obj.ren bk sh (sh k) o' ∧ g2.at_ i = g'.at_ k) ∨ (i ∉ L ∧ obj i = some o ∧ g2.at_ i = g.at_ i) := fun i o ho => by
  by_cases h1 : i ∈ L
  ·have hk := placeOf_get h1
   obtain ⟨o1, m1, m2⟩ := o2L _ _ hk
   have hlt : placeOf L i < h'.length := by have := placeOf_lt h1; omega
   obtain ⟨o', q1, q2⟩ := hget' _ hlt
   rw [m1] at q2
   refine .inl ⟨placeOf L i, o', by unfold objOf; rw [q1]; rfl, bkL _ _ hk, ?_, a2L _ _ hk⟩
   rw [m2] at ho
   rw [ho, Nat.zero_add] at q2
   exact Option.some.inj (Option.some.inj q2)
  ·by_cases h2 : fresh ≤ i ∧ i < fresh + ns.length
   ·have hk : i - fresh < ns.length := by omega
    have e := o2F (i - fresh) hk
    have e' := a2F (i - fresh) hk
    rw [show fresh + (i - fresh) = i by omega] at e e'
    have hlt : m + (i - fresh) < h'.length := by omega
    obtain ⟨o', q1, q2⟩ := hget' _ hlt
    rw [e, ho, Nat.zero_add] at q2
    refine .inl ⟨m + (i - fresh), o', by unfold objOf; rw [q1]; rfl, by rw [bkF _ (by omega)]; omega, Option.some.inj (Option.some.inj q2), e'⟩
   ·exact .inr ⟨h1, by rw [← o2N i h1 h2]; exact ho, a2N i h1 h2⟩
 have own2 : ∀ i b q, owns g2 obj2 i b q → (∃ k, bk k = i ∧ owns g' (objOf h') k b q) ∨ (i ∉ L ∧ owns g obj i b q ∧ obj2 i = obj i) := fun i b q hi => by
  cases ho : obj2 i with
  | none => unfold owns at hi; rw [ho] at hi; exact hi.elim
  | some o =>
   rcases cls i o ho with ⟨k, o', h1, h2, h3, h4⟩ | ⟨h1, h2, h3⟩
   ·subst h3
    exact .inl ⟨k, h2, (owns_ren (g := g') (g2 := g2) h1 ho h4 b q).1 hi⟩
   ·refine .inr ⟨h1, ?_, by rw [h2]⟩
    unfold owns at hi ⊢
    rw [ho, h3] at hi
    rw [h2]; exact hi
 have ownedL : ∀ b q, owned ⟨fun i => g.at_ (L.getD i 0), g.im⟩ (objOf h) b q → ∃ i ∈ L, owns g obj i b q := fun b q ⟨k, hk⟩ => by
  obtain ⟨i, h1, h2⟩ := hown1 k b q hk
  exact ⟨i, List.mem_of_getElem? h1, h2⟩
 have ownedN : ∀ i b q, i ∉ L → owns g obj i b q → ¬ owned ⟨fun i => g.at_ (L.getD i 0), g.im⟩ (objOf h) b q := fun i b q hi ho hc => by
  obtain ⟨j, hj, h2⟩ := ownedL b q hc
  rw [hH.one i j b q ho h2] at hi
  exact hi hj
 have cellI : ∀ b o, g.im b o → w'.cell? (cellAt b o) = w.cell? (cellAt b o) := fun b o hi =>
  (hE.blk b (hH.imOld b o hi)).cell fun hc => by
   obtain ⟨j, hj, h2⟩ := ownedL b o hc
   exact hH.imm j b o h2 hi
 have cellN : ∀ i b o, i ∉ L → owns g obj i b o → w'.cell? (cellAt b o) = w.cell? (cellAt b o) := fun i b o hi ho =>
  (hE.blk b (hH.old i b o ho)).cell (ownedN i b o hi ho)
 have kind : OEvo g obj g2 obj2 := by
  intro i
  by_cases hi : i ∈ L
  ·have hk := placeOf_get hi
   obtain ⟨o, h1, h2⟩ := hob1 _ _ hk
   have hkv := hE.kevo (placeOf L i)
   have hat : (⟨fun i => g.at_ (L.getD i 0), g.im⟩ : Gh).at_ (placeOf L i) = g.at_ i := by
    show g.at_ (L.getD (placeOf L i) 0) = _
    rw [List.getD_eq_getElem?_getD, hk]; rfl
   rw [h2] at hkv
   rw [h1]
   have hb := bkL _ _ hk
   have box : isBox (objOf h' (placeOf L i)) ∧ g'.at_ (placeOf L i) = g.at_ i → isBox (obj2 i) ∧ g2.at_ i = g.at_ i := fun ⟨q1, q2⟩ => by
    rcases q1 with ⟨cs, q1⟩ | ⟨ds, q1⟩
    ·obtain ⟨p1, p2⟩ := place _ _ q1
     rw [hb] at p1 p2
     exact ⟨.inl ⟨_, p1⟩, p2.trans q2⟩
    ·obtain ⟨p1, p2⟩ := place _ _ q1
     rw [hb] at p1 p2
     exact ⟨.inr ⟨_, p1⟩, p2.trans q2⟩
   have mapp : isMapO (objOf h' (placeOf L i)) ∧ g'.at_ (placeOf L i) = g.at_ i → isMapO (obj2 i) ∧ g2.at_ i = g.at_ i := fun ⟨q1, q2⟩ => by
    rcases q1 with ⟨cs, q1⟩ | ⟨ds, q1⟩
    ·obtain ⟨p1, p2⟩ := place _ _ q1
     rw [hb] at p1 p2
     exact ⟨.inl ⟨_, p1⟩, p2.trans q2⟩
    ·obtain ⟨p1, p2⟩ := place _ _ q1
     rw [hb] at p1 p2
     exact ⟨.inr ⟨_, p1⟩, p2.trans q2⟩
   cases o with
   | box cs => simp only [Obj.ren] at hkv; rw [hat] at hkv; exact box hkv
   | cst ds => simp only [Obj.ren] at hkv; rw [hat] at hkv; exact box hkv
   | tok ver sz =>
    simp only [Obj.ren] at hkv
    obtain ⟨v', sz', q1⟩ := hkv
    obtain ⟨p1, p2⟩ := place _ _ q1
    rw [hb] at p1 p2
    have hshv : sh (placeOf L i) = ver + 1 := by
     rw [hsh]
     simp only
     rw [if_pos (by rw [← hm]; exact placeOf_lt hi)]
     have : h.getD (placeOf L i) none = some (.tok (ver + 0) sz) := by
      unfold objOf at h2
      rw [List.getD_eq_getElem?_getD]
      cases hq : h[placeOf L i]? with
      | none => rw [hq] at h2; cases h2
      | some x => rw [hq] at h2; simpa [Obj.ren] using h2
     rw [this]; rfl
    refine ⟨_, _, p1, by rw [hshv]; omega, fun e => by rw [hshv] at e; omega⟩
   | arr ver sz xs =>
    simp only [Obj.ren] at hkv
    rw [hat] at hkv
    obtain ⟨v', xs', q1, q2, q3⟩ := hkv
    obtain ⟨p1, p2⟩ := place _ _ q1
    rw [hb] at p1 p2
    refine ⟨v', _, p1, q2, fun e => ⟨?_, p2.trans (q3 e).2⟩⟩
    have := (q3 e).1
    rw [renRows_length] at this ⊢
    exact this
   | map kvs => simp only [Obj.ren] at hkv; rw [hat] at hkv; exact mapp hkv
   | cmap kvs => simp only [Obj.ren] at hkv; rw [hat] at hkv; exact mapp hkv
   | lp j key caps =>
    simp only [Obj.ren] at hkv
    rw [hat] at hkv
    obtain ⟨⟨j', caps', q1⟩, q3⟩ := hkv
    obtain ⟨p1, p2⟩ := place _ _ q1
    rw [hb] at p1 p2
    exact ⟨⟨j', _, p1⟩, p2.trans q3⟩
  ·by_cases h2 : fresh ≤ i ∧ i < fresh + ns.length
   ·have := hfree (i - fresh) (by omega)
    rw [show fresh + (i - fresh) = i by omega] at this
    rw [this]; trivial
   ·have := OEvo.refl g obj i
    rw [o2N i hi h2, a2N i hi h2]
    exact this
 have hv : ∀ x v, VRel tab g obj w x v → VRel tab g2 obj2 w' x v := fun x v hx => VRel.mono kind hE.im cellI x v hx
 have sz := hE.size
 have bkInj : ∀ k k' o o', objOf h' k = some o → objOf h' k' = some o' → bk k = bk k' → k = k' := fun k k' o o' hk hk' e => by
  have lt : ∀ k o, objOf h' k = some o → k < os.length := fun k o hk => by
   rcases Qn k h'.length with h | h
   ·omega
   ·unfold objOf at hk; rw [Qe h] at hk; cases hk
  have l1 := lt k o hk
  have l2 := lt k' o' hk'
  rcases Qn k m with a | a <;> rcases Qn k' m with b | b
  ·have e1 : L[k]? = some (L[k]'(by omega)) := Qd (by omega)
   have e2 : L[k']? = some (L[k']'(by omega)) := Qd (by omega)
   rw [bkL k _ e1, bkL k' _ e2] at e
   rw [e] at e1
   exact nodup_get hn e1 e2
  ·exfalso
   have e1 : L[k]? = some (L[k]'(by omega)) := Qd (by omega)
   rw [bkL k _ e1, bkF k' b] at e
   exact hLfresh _ (List.mem_of_getElem? e1) (k' - m) (by omega) e
  ·exfalso
   have e1 : L[k']? = some (L[k']'(by omega)) := Qd (by omega)
   rw [bkL k' _ e1, bkF k a] at e
   exact hLfresh _ (List.mem_of_getElem? e1) (k - m) (by omega) e.symm
  ·rw [bkF k a, bkF k' b] at e; omega
 have ownSome : ∀ k b q, owns g' (objOf h') k b q → ∃ o, objOf h' k = some o := fun k b q hk => by
  cases ho : objOf h' k with
  | none => unfold owns at hk; rw [ho] at hk; exact hk.elim
  | some o => exact ⟨o, rfl⟩
 refine ⟨g2, ⟨⟨fun i o hi => ?_, fun i b q hi => ?_, fun i i' b q hi hi' => ?_, fun i b q hi => ?_, fun i b q hi hm' => ?_, hH'.imOld⟩,
  ⟨hE.os, hE.tape, hE.output, hE.size, fun b hb => (hE.blk b hb).mono fun q hq => ?_, hE.im, fun b q hq => ?_, fun b q hq => ?_, kind.kevo⟩, hv⟩, ?_⟩
 ·rcases cls i o hi with ⟨k, o', h1, h2, h3, h4⟩ | ⟨h1, h2, h3⟩
  ·subst h3
   rw [h4]
   exact ORel.ren (g := g') (obj := objOf h') (g2 := g2) rfl (fun j _ => corr j) (hH'.ob k o' h1)
  ·rw [h3]
   have h0 := hH.ob i o h2
   cases o with
   | box cs =>
    obtain ⟨k1, us, k2, k3⟩ := h0
    have hl := k2.length
    refine ⟨k1, us, CList.mono kind hE.im cellI cs us k2, fun q u hq => ?_⟩
    have hq' : q < us.length := by
     rcases Qn q us.length with h | h
     ·exact h
     ·rw [Qe h] at hq; cases hq
    rw [cellN i _ _ h1 (by unfold owns; rw [h2]; exact ⟨rfl, by omega, by omega⟩)]
    exact k3 q u hq
   | cst ds => exact DCells.mono hE.im cellI ds _ _ h0
   | tok v sz =>
    intro q hq
    rw [cellN i _ _ h1 (by unfold owns; rw [h2]; exact ⟨rfl, by omega, by omega⟩)]
    exact h0 q hq
   | arr v s xs =>
    obtain ⟨k1, k2, k4, k5⟩ := h0
    have cell : ∀ q, q < (g.at_ i).cnt → w'.cell? (cellAt (g.at_ i).blk ((g.at_ i).lo + q)) = w.cell? (cellAt (g.at_ i).blk ((g.at_ i).lo + q)) := fun q hq =>
     cellN i _ _ h1 (by unfold owns; rw [h2]; exact ⟨rfl, by omega, by omega⟩)
    refine ⟨k1, k2, fun q hq => by rw [cell q hq]; exact k4 q hq, fun j r q d hj hq => ?_⟩
    obtain ⟨u, h6, h7, h8⟩ := k5 j r q d hj hq
    refine ⟨u, ?_, VRel.mono kind hE.im cellI d u h7, h8⟩
    have hr : r.length = s := k1 r (List.mem_of_getElem? hj)
    have hj' : j < xs.length := by
     rcases Qn j xs.length with h | h
     ·exact h
     ·rw [Qe h] at hj; cases hj
    have hq' : q < r.length := by
     rcases Qn q r.length with h | h
     ·exact h
     ·rw [Qe h] at hq; cases hq
    have hle : (j + 1) * s ≤ xs.length * s := Nat.mul_le_mul_right _ hj'
    rw [Nat.add_mul] at hle
    rw [Nat.add_assoc, cell (j * s + q) (by omega), ← Nat.add_assoc]
    exact h6
   | map kvs =>
    obtain ⟨es, cl, k1, k2⟩ := h0
    have hown : ∀ o, owns g obj i (g.at_ i).blk o := fun o => by unfold owns; rw [h2]
    refine ⟨es, cl, ?_, MRel.mono kind hE.im cellI kvs es.toList _ k2⟩
    rcases hE.blk (g.at_ i).blk (hH.old i _ 0 (hown 0)) with hb | ⟨c, c', t, fr, q1, q2, q3, q4⟩ | ⟨es1, cl1, es', cl', q1, q2, q3⟩ | ⟨r, st, pe, q1, q2, q3⟩
    ·rw [hb, k1]
    ·rw [k1] at q1; cases q1
    ·exact absurd (q3 0) (ownedN i _ 0 h1 (hown 0))
    ·rw [k1] at q1; cases q1
   | cmap kvs =>
    obtain ⟨k0, es, cl, k1, k2⟩ := h0
    refine ⟨hE.im _ _ k0, es, cl, (hE.blk _ (heap_lt k1)).still (o := 0) k1 (fun hc => ?_), MRel.mono kind hE.im cellI kvs es.toList _ k2⟩
    obtain ⟨j, hj, h3⟩ := ownedL _ _ hc
    exact hH.imm j _ _ h3 k0
   | lp j key caps =>
    obtain ⟨r, R, k1, k2, k3, k4, k5, k6, k7, k8, k9⟩ := h0
    have hown : ∀ o, owns g obj i (g.at_ i).blk o := fun o => by unfold owns; rw [h2]
    refine ⟨r, R, ?_, k2, k3, k4, k5, k6, k7, k8, VList.mono kind hE.im cellI caps _ k9⟩
    rcases hE.blk (g.at_ i).blk (hH.old i _ 0 (hown 0)) with hb | ⟨c, c', t, fr, q1, q2, q3, q4⟩ | ⟨es1, cl1, es', cl', q1, q2, q3⟩ | ⟨r, st, pe, q1, q2, q3⟩
    ·rw [hb, k1]
    ·rw [k1] at q1; cases q1
    ·rw [k1] at q1; cases q1
    ·exact absurd (q3 0) (ownedN i _ 0 h1 (hown 0))
 ·rcases own2 i b q hi with ⟨k, _, h2⟩ | ⟨h1, h2, _⟩
  ·exact hH'.imm k b q h2
  ·intro hi'
   rcases hE.imNew b q hi' with h3 | h3 | h3
   ·exact hH.imm i b q h2 h3
   ·exact ownedN i b q h1 h2 h3
   ·have := hH.old i b q h2; omega
 ·have cross : ∀ k j, j ∉ L → owns g' (objOf h') k b q → owns g obj j b q → False := fun k j h1 h2 h3 => by
   rcases hE.ownNew b q ⟨k, h2⟩ with h4 | h4
   ·exact ownedN j b q h1 h3 h4
   ·have := hH.old j b q h3; omega
  rcases own2 i b q hi with ⟨k, e1, h2⟩ | ⟨h1, h2, _⟩ <;> rcases own2 i' b q hi' with ⟨k', e1', h2'⟩ | ⟨h1', h2', _⟩
  ·rw [← e1, ← e1', hH'.one k k' b q h2 h2']
  ·exact (cross k i' h1' h2 h2').elim
  ·exact (cross k' i h1 h2' h2).elim
  ·exact hH.one i i' b q h2 h2'
 ·rcases own2 i b q hi with ⟨k, _, h2⟩ | ⟨h1, h2, _⟩
  ·exact hH'.old k b q h2
  ·exact Nat.lt_of_lt_of_le (hH.old i b q h2) sz
 ·rcases own2 i b q hi with ⟨k, e1, h2⟩ | ⟨h1, h2, h3⟩
  ·obtain ⟨o, ho⟩ := ownSome k b q h2
   obtain ⟨p1, p2⟩ := place k o ho
   rw [e1] at p1
   exact hH'.frz k b q h2 (mapOf_ren ho p1 hm')
  ·rw [h3] at hm'
   intro q'
   rw [(hE.blk b (hH.old i b q h2)).frozen]
   exact hH.frz i b q h2 hm' q'
 ·obtain ⟨i, _, h2⟩ := ownedL b q hq
  exact ⟨i, h2⟩
 ·rcases hE.imNew b q hq with h3 | h3 | h3
  ·exact .inl h3
  ·obtain ⟨i, _, h2⟩ := ownedL b q h3
   exact .inr (.inl ⟨i, h2⟩)
  ·exact .inr (.inr h3)
 ·obtain ⟨i, hi⟩ := hq
  rcases own2 i b q hi with ⟨k, _, h2⟩ | ⟨h1, h2, _⟩
  ·rcases hE.ownNew b q ⟨k, h2⟩ with h4 | h4
   ·obtain ⟨j, _, h5⟩ := ownedL b q h4
    exact .inl ⟨j, h5⟩
   ·exact .inr h4
  ·exact .inl ⟨i, h2⟩
 ·exact VRel.ren (g := g') (obj := objOf h') (g2 := g2) rfl r v (fun j _ => corr j) hrv
theorem rawAll_rel : ∀ (vs hs : List V) (us : List Value), V.rawAll vs = some hs → VList tab g obj w vs us → VList tab g obj w hs us
 | [], hs, us, h, hv => by
  simp only [V.rawAll, Qa] at h
  subst h; exact hv
 | v :: vs, hs, us, h, hv => by
  cases us with
  | nil => simp only [VList] at hv
  | cons u us =>
   simp only [VList] at hv
   simp only [V.rawAll] at h
   split at h
   ·rename_i x xs h1 h2
    simp only [Qa] at h
    subst h
    simp only [VList]
    refine ⟨?_, rawAll_rel vs xs us h2 hv.2⟩
    unfold V.rawH at h1
    split at h1
    ·simp only [Qa] at h1
     subst h1; exact hv.1
    ·exact hand_rel _ _ _ h1 hv.1
   ·cases h
theorem hands_rel {md : Md} {vs hs : List V} {us : List Value} (h : md.hands vs = some hs) (hv : VList tab g obj w vs us) : VList tab g obj w hs us := by
 cases md with
 | raw => exact rawAll_rel vs hs us h hv
 | _ => exact handAll_rel vs hs us h hv
theorem enter_postC {C : List Value → World → (Ending → World → Prop) → Prop} (hC : ∀ vs w R R', C vs w R → (∀ e w', R e w' → R' e w') → C vs w R') {call : CallF} {key : Nat} (hF : FnC tab C (call key)) (hH : HRel tab g obj w) {vs : List V} {us : List Value} (hv : VList tab g obj w vs us) {res fresh : Nat} {r : V} {is : List Nat} {os ns : List (Option Obj)}
  {md : Md} (he : enterCall call md obj key vs res fresh = some (r, is, os, ns)) (hfree : ∀ k, k < ns.length → obj (fresh + k) = none) :
  C us w fun e w' => ∃ v g', e = .returned v ∧ Post tab g obj w g' (updL (updL obj is os) (List.range' fresh ns.length) ns) w' ∧ VRel tab g' (updL (updL obj is os) (List.range' fresh ns.length) ns) w' r v := by
 unfold enterCall at he
 split at he
 ·cases he
 ·rename_i hs hhs
  split at he
  ·cases he
  ·rename_i L hL
   split at he
   ·cases he
   ·rename_i h hh
    split at he
    ·cases he
    ·rename_i r' h' hcall
     simp only at he
     split at he
     ·cases he
     ·rename_i os' hos
      split at he
      ·rename_i hle
       simp only [Qa, Qj] at he
       obtain ⟨rfl, rfl, rfl, rfl⟩ := he
       obtain ⟨_, hn, hin, hcl⟩ := reach_ok far _ [] L hL (by simp) (by simp)
       obtain ⟨hH1, hcor1, _, _, _⟩ := hrel_sub1 hH hn hcl hh
       have hv1 : VList tab ⟨fun i => g.at_ (L.getD i 0), g.im⟩ (objOf h) w (V.renAll (placeOf L) noShift hs) us :=
        VList.ren (g := g) (g2 := ⟨fun i => g.at_ (L.getD i 0), g.im⟩) (obj := obj) rfl _ _ (fun i hi => hcor1 i (hin i hi)) (hands_rel hhs hv)
       have := hF _ _ _ _ hcall _ w us hH1 hv1
       refine hC _ _ _ _ this fun e w' ⟨v, g', he, k1, k2, k3⟩ => ?_
       obtain ⟨g2, q1, q2⟩ := merge_post hH hn hcl hh rfl rfl hos hle.1 hfree k1 k2 k3
       exact ⟨v, g2, he, q1, q2⟩
      ·cases he
theorem enter_post {call : CallF} {fid key : Nat} (hF : FnOk P tab fid (call key)) (hH : HRel tab g obj w) {vs : List V} {us : List Value} (hv : VList tab g obj w vs us) {res fresh : Nat} {r : V} {is : List Nat} {os ns : List (Option Obj)}
  {md : Md} (he : enterCall call md obj key vs res fresh = some (r, is, os, ns)) (hfree : ∀ k, k < ns.length → obj (fresh + k) = none) :
  Go.Calls P fid us.toArray w fun e w' => ∃ v g', e = .returned v ∧ Post tab g obj w g' (updL (updL obj is os) (List.range' fresh ns.length) ns) w' ∧ VRel tab g' (updL (updL obj is os) (List.range' fresh ns.length) ns) w' r v :=
 enter_postC (C := fun vs w R => Calls P fid vs.toArray w R) (fun _ _ _ _ h k => h.mono k) hF hH hv he hfree
end
open Go
open Go.RowKit (Below)
section
variable {P : Program} {tab : Tab} {g g0 : Gh} {obj : Nat → Option Obj} {w w0 : World} {hp : List (Option Obj)}
theorem gather_ok (hH : HRel tab g obj w) (hE : Evo g0 (objOf hp) w0 g obj w) {todo L : List Nat} {h : List (Option Obj)} (hL : reach obj far (List.range hp.length ++ todo) [] = some L) (hren : renObjs (placeOf L) noShift 0 (L.map obj) = some h) :
  HRel tab ⟨fun i => g.at_ (L.getD i 0), g.im⟩ (objOf h) w ∧ Evo g0 (objOf hp) w0 ⟨fun i => g.at_ (L.getD i 0), g.im⟩ (objOf h) w ∧
   (∀ i ∈ todo, Corr g ⟨fun i => g.at_ (L.getD i 0), g.im⟩ obj (objOf h) (placeOf L) noShift i) ∧ (∀ k b q, owns ⟨fun i => g.at_ (L.getD i 0), g.im⟩ (objOf h) k b q → ∃ i ∈ L, owns g obj i b q) := by
 obtain ⟨_, hn, hin, hcl⟩ := reach_ok far _ [] L hL (by simp) (by simp)
 obtain ⟨hH1, hcor, hlen, hob, hown⟩ := hrel_sub1 hH hn hcl hren
 obtain ⟨more, hmore⟩ := reach_range hp.length far 0 todo L (by rw [← List.range_eq_range']; exact hL)
 rw [Nat.zero_add] at hmore
 have hat : ∀ i, i < hp.length → L[i]? = some i := fun i hi => by
  rw [hmore, List.getElem?_append_left (by simpa using hi), List.getElem?_range hi]
 refine ⟨hH1, ⟨hE.os, hE.tape, hE.output, hE.size, hE.blk, hE.im, hE.imNew, fun b o ⟨k, hk⟩ => ?_, fun i => ?_⟩, fun i hi => hcor i (hin i (List.mem_append.2 (.inr hi))), fun k b q hk => ?_⟩
 ·obtain ⟨i, _, hi⟩ := hown k b o hk
  exact hE.ownNew b o ⟨i, hi⟩
 ·have hk := hE.kevo i
  cases ho : objOf hp i with
  | none => trivial
  | some o =>
   rw [ho] at hk
   have hi : i < hp.length := by
    rcases Qn i hp.length with h | h
    ·exact h
    ·unfold objOf at ho; rw [Qe h] at ho; cases ho
   obtain ⟨o', m1, m2⟩ := hob i i (hat i hi)
   have hat' : (⟨fun i => g.at_ (L.getD i 0), g.im⟩ : Gh).at_ i = g.at_ i := by
    show g.at_ (L.getD i 0) = _
    rw [List.getD_eq_getElem?_getD, hat i hi]; rfl
   rw [m1] at hk
   rw [m2, hat']
   cases o with
   | box cs =>
    refine ⟨?_, hk.2⟩
    rcases hk.1 with ⟨c, e⟩ | ⟨c, e⟩ <;> simp only [Qa] at e <;> subst e
    ·exact .inl ⟨_, rfl⟩
    ·exact .inr ⟨_, rfl⟩
   | cst ds =>
    refine ⟨?_, hk.2⟩
    rcases hk.1 with ⟨c, e⟩ | ⟨c, e⟩ <;> simp only [Qa] at e <;> subst e
    ·exact .inl ⟨_, rfl⟩
    ·exact .inr ⟨_, rfl⟩
   | tok v sz =>
    obtain ⟨v', sz', e⟩ := hk
    simp only [Qa] at e
    subst e
    exact ⟨_, _, rfl⟩
   | arr v sz xs =>
    obtain ⟨v', xs', e, e1, e2⟩ := hk
    simp only [Qa] at e
    subst e
    exact ⟨v', _, rfl, e1, fun q => ⟨by rw [renRows_length]; exact (e2 q).1, (e2 q).2⟩⟩
   | map kvs =>
    refine ⟨?_, hk.2⟩
    rcases hk.1 with ⟨c, e⟩ | ⟨c, e⟩ <;> simp only [Qa] at e <;> subst e
    ·exact .inl ⟨_, rfl⟩
    ·exact .inr ⟨_, rfl⟩
   | cmap kvs =>
    refine ⟨?_, hk.2⟩
    rcases hk.1 with ⟨c, e⟩ | ⟨c, e⟩ <;> simp only [Qa] at e <;> subst e
    ·exact .inl ⟨_, rfl⟩
    ·exact .inr ⟨_, rfl⟩
   | lp j key caps =>
    obtain ⟨⟨j', caps', e⟩, e2⟩ := hk
    simp only [Qa] at e
    subst e
    exact ⟨⟨_, _, rfl⟩, e2⟩
 ·obtain ⟨i, h1, h2⟩ := hown k b q hk
  exact ⟨i, List.mem_of_getElem? h1, h2⟩
theorem more_im (hH : HRel tab g obj w) {im' : Nat → Nat → Prop} (hi : ∀ b o, g.im b o → im' b o) (hno : ∀ k b o, owns g obj k b o → ¬ im' b o) (hold : ∀ b o, im' b o → b < w.heap.size) : HRel tab ⟨g.at_, im'⟩ obj w where
 ob i o ho := by
  have h0 := hH.ob i o ho
  have kind : OEvo g obj ⟨g.at_, im'⟩ obj := OEvo.refl g obj
  cases o with
  | box cs => obtain ⟨k1, us, k2, k3⟩ := h0; exact ⟨k1, us, CList.mono kind hi (fun _ _ _ => rfl) cs us k2, k3⟩
  | cst ds => exact DCells.mono hi (fun _ _ _ => rfl) ds _ _ h0
  | tok v sz => exact h0
  | arr v sz xs => obtain ⟨k1, k2, k3, k4⟩ := h0; exact ⟨k1, k2, k3, fun j r q x a b => let ⟨u, m1, m2, m3⟩ := k4 j r q x a b; ⟨u, m1, VRel.mono kind hi (fun _ _ _ => rfl) x u m2, m3⟩⟩
  | map kvs => obtain ⟨es, cl, k1, k2⟩ := h0; exact ⟨es, cl, k1, MRel.mono kind hi (fun _ _ _ => rfl) kvs _ _ k2⟩
  | cmap kvs => obtain ⟨k0, es, cl, k1, k2⟩ := h0; exact ⟨hi _ _ k0, es, cl, k1, MRel.mono kind hi (fun _ _ _ => rfl) kvs _ _ k2⟩
  | lp j key caps => obtain ⟨r, R, h1, h2, h3, h4, h5, h6, h7, h8, h9⟩ := h0; exact ⟨r, R, h1, h2, h3, h4, h5, h6, h7, h8, VList.mono kind hi (fun _ _ _ => rfl) caps _ h9⟩
 imm i b o h := hno i b o h
 one i j b o h h' := hH.one i j b o h h'
 old i b o h := hH.old i b o h
 frz i b o h hm := hH.frz i b o h hm
 imOld := hold
def Shut (obj : Nat → Option Obj) (S : Nat → Prop) : Prop := ∀ i, S i → ∀ j ∈ Obj.refs (obj i), S j
theorem refsAll_mem {c : V} : ∀ {cs : List V}, c ∈ cs → ∀ j ∈ V.refs c, j ∈ V.refsAll cs
 | x :: cs, h, j, hj => by
  simp only [V.refsAll, List.mem_append]
  rcases List.mem_cons.1 h with rfl | h
  ·exact .inl hj
  ·exact .inr (refsAll_mem h j hj)
mutual
theorem lend_rel (hH : HRel tab g obj w) {im' : Nat → Nat → Prop} (hi : ∀ b q, g.im b q → im' b q) {S : Nat → Prop} (hS : ∀ id b q, S id → owns g obj id b q → im' b q) (hC : Shut obj S) : ∀ (f : Nat) (v : V) (u : Value) (d : D), VRel tab g obj w v u → V.lend obj f v = some d → (∀ j ∈ V.refs v, S j) → DRel tab im' w d u
 | 0, v, u, d, hv, h, hs => by simp [V.lend] at h
 | f + 1, v, u, d, hv, h, hs => by
  have dflt : v.toD = some d → DRel tab im' w d u := fun h => DRel.mono (w := w) hi (fun _ _ _ => rfl) _ _ (toD_rel h hv)
  cases v with
  | arr id ver off len =>
   have hid : S id := hs id (by simp [V.refs])
   simp only [V.lend] at h
   split at h
   ·rename_i ver' sz xs ho
    split at h
    ·rename_i hcond
     obtain ⟨rfl, hle⟩ := hcond
     split at h
     ·rename_i ds hds
      simp only [Qa] at h
      subst h
      simp only [VRel] at hv
      obtain ⟨⟨A0, c0, e0, hlc0⟩, v1, s1, x1, h1, h2, h3⟩ := hv
      rw [ho] at h1
      simp only [Qa, Obj.arr.injEq] at h1
      obtain ⟨rfl, rfl, rfl⟩ := h1
      obtain ⟨_, A, c, e1, h4⟩ := h3 rfl
      rw [e0] at e1
      simp only [Value.slice.injEq] at e1
      obtain ⟨rfl, _, rfl⟩ := e1
      obtain ⟨k1, k2, k4, k5⟩ := hH.ob id _ ho
      obtain ⟨l1, l2, l3⟩ := lendRows_rel hH hi hS hC f xs ds (g.at_ id).blk (g.at_ id).lo sz k5 k1 hds (fun q hq => hS id _ _ hid (by unfold owns; rw [ho]; exact ⟨rfl, by omega, by omega⟩)) (fun j hj => hC id hid j (by rw [ho]; exact hj))
      have hl : ((ds.drop off).take len).length = len := by simp; omega
      simp only [DRel]
      refine ⟨A0, c0, by rw [hl]; exact e0, by rw [hl]; exact hlc0, fun r hr => l2 r (List.mem_of_mem_drop (List.mem_of_mem_take hr)), ?_⟩
      rcases h4 with h4 | ⟨h4, _⟩
      ·exact .inl (List.length_eq_zero_iff.1 (by omega))
      ·exact .inr ⟨_, _, h4, (l3.drop off l2).take len⟩
     ·cases h
    ·cases h
   ·cases h
  | ptr id off =>
   have hid : S id := hs id (by simp [V.refs])
   simp only [V.lend] at h
   simp only [VRel] at hv
   split at h
   ·rename_i cs ho
    split at h
    ·rename_i ds hds
     simp only [Qa] at h
     subst h
     obtain ⟨h1, us, h2, h3⟩ := hH.ob id _ ho
     have hd := lendAll_rel hH hi hS hC f cs us ds h2 hds (fun j hj => hC id hid j (by rw [ho]; exact hj))
     simp only [DRel]
     refine ⟨(g.at_ id).blk, (g.at_ id).lo, hv.2, DCells.mk (us := us) hd h3 (fun q hq => hS id _ _ hid ?_)⟩
     unfold owns
     rw [ho]
     rw [← hd.length, h2.length] at hq
     exact ⟨rfl, by omega, by omega⟩
    ·cases h
   ·rename_i ds ho
    simp only [Qa] at h
    subst h
    have h0 := hH.ob id _ ho
    simp only [DRel]
    exact ⟨(g.at_ id).blk, (g.at_ id).lo, hv.2, DCells.mono (w := w) hi (fun _ _ _ => rfl) _ _ _ h0⟩
   ·cases h
  | _ => exact dflt (by simpa only [V.lend] using h)
theorem lendAll_rel (hH : HRel tab g obj w) {im' : Nat → Nat → Prop} (hi : ∀ b q, g.im b q → im' b q) {S : Nat → Prop} (hS : ∀ id b q, S id → owns g obj id b q → im' b q) (hC : Shut obj S) : ∀ (f : Nat) (cs : List V) (us : List Value) (ds : List D), CList tab g obj w cs us → lendAll obj f cs = some ds → (∀ j ∈ V.refsAll cs, S j) → DList tab im' w ds us
 | 0, cs, us, ds, hc, h, hs => by simp [lendAll] at h
 | f + 1, [], us, ds, hc, h, hs => by
  simp only [lendAll, Qa] at h
  subst h
  cases us with
  | nil => simp only [DList]
  | cons u us => simp only [CList] at hc
 | f + 1, v :: vs, us, ds, hc, h, hs => by
  simp only [lendAll] at h
  split at h
  ·rename_i x xs hx hxs
   simp only [Qa] at h
   subst h
   cases us with
   | nil => simp only [CList] at hc
   | cons u us =>
    simp only [CList] at hc
    simp only [DList]
    simp only [V.refsAll, List.mem_append] at hs
    exact ⟨lend_rel hH hi hS hC f v u x hc.1 hx (fun j hj => hs j (.inl hj)), lendAll_rel hH hi hS hC f vs us xs hc.2.2 hxs (fun j hj => hs j (.inr hj))⟩
  ·cases h
theorem lendRows_rel (hH : HRel tab g obj w) {im' : Nat → Nat → Prop} (hi : ∀ b q, g.im b q → im' b q) {S : Nat → Prop} (hS : ∀ id b q, S id → owns g obj id b q → im' b q) (hC : Shut obj S) : ∀ (f : Nat) (xs : List (List V)) (ds : List (List D)) (b lo sz : Nat),
  (∀ i r q x, xs[i]? = some r → r[q]? = some x → ∃ u, w.cell? (cellAt b (lo + i * sz + q)) = some u ∧ VRel tab g obj w x u ∧ u.oneCell' = true) → (∀ r ∈ xs, r.length = sz) → lendRows obj f xs = some ds → (∀ q, q < xs.length * sz → im' b (lo + q)) → (∀ j ∈ refsRows xs, S j) →
  ds.length = xs.length ∧ (∀ r ∈ ds, r.length = sz) ∧ DRows tab im' w b lo ds
 | 0, xs, ds, b, lo, sz, h, hs, hd, him, _ => by simp [lendRows] at hd
 | f + 1, [], ds, b, lo, sz, h, hs, hd, him, _ => by
  simp only [lendRows, Qa] at hd
  subst hd
  exact ⟨rfl, by simp, by simp only [DRows]⟩
 | f + 1, r :: rs, ds, b, lo, sz, h, hs, hd, him, hrefs => by
  simp only [lendRows] at hd
  split at hd
  ·rename_i d ds' h1 h2
   simp only [Qa] at hd
   subst hd
   have hr : r.length = sz := hs r (by simp)
   simp only [refsRows, List.mem_append] at hrefs
   obtain ⟨us, k1, k2⟩ := arr_row h (idx := 0) (row := r) rfl
   rw [Nat.zero_mul, Nat.add_zero] at k2
   have hdd := lendAll_rel hH hi hS hC f r us d k1 h1 (fun j hj => hrefs j (.inl hj))
   have hdl : d.length = sz := by rw [← hdd.length, k1.length, hr]
   have hle : sz ≤ (r :: rs).length * sz := by rw [List.length_cons, Nat.add_mul]; omega
   obtain ⟨m1, m2, m3⟩ := lendRows_rel hH hi hS hC f rs ds' b (lo + sz) sz (fun i r' q x h3 h4 => by
    have := h (i + 1) r' q x (by simpa using h3) h4
    rwa [show lo + (i + 1) * sz + q = lo + sz + i * sz + q by rw [Nat.add_mul]; omega] at this) (fun r hr => hs r (by simp [hr])) h2 (fun q hq => by
    have := him (sz + q) (by rw [List.length_cons, Nat.add_mul]; omega)
    rwa [← Nat.add_assoc] at this) (fun j hj => hrefs j (.inr hj))
   refine ⟨by simp [m1], fun r' hr' => ?_, ?_⟩
   ·rcases List.mem_cons.1 hr' with rfl | hr'
    ·exact hdl
    ·exact m2 r' hr'
   ·simp only [DRows]
    refine ⟨DCells.mk (us := us) hdd k2 (fun q hq => him q (by omega)), ?_⟩
    rw [hdl]; exact m3
  ·cases hd
end
def lentIm (g : Gh) (obj : Nat → Option Obj) : Nat → Nat → Prop := fun b q => g.im b q ∨ owned g obj b q
section
variable {im' : Nat → Nat → Prop} (hH : HRel tab g obj w) (hi : ∀ b o, g.im b o → im' b o) {m : Nat} {S : Nat → Prop} (hS : ∀ id b q, S id → owns g obj id b q → im' b q) (hC : Shut obj S)
include hH hi hS hC
theorem frz1_rel {x y : V} (h : frz1 m obj x = some y) (him : ∀ id ∈ x.arrIds m, S id) {v : Value} (hx : VRel tab g obj w x v) : VRel tab ⟨g.at_, im'⟩ obj w y v := by
 have mono : ∀ x, VRel tab g obj w x v → VRel tab ⟨g.at_, im'⟩ obj w x v := fun x hx => VRel.mono (show OEvo g obj ⟨g.at_, im'⟩ obj from OEvo.refl g obj) hi (fun _ _ _ => rfl) x v hx
 cases x with
 | arr id ver off len =>
  simp only [frz1] at h
  split at h
  ·rename_i hm
   split at h
   ·rename_i d hd
    simp only [Qa] at h
    subst h
    simp only [VRel]
    refine lend_rel hH hi hS hC _ _ v d hx hd (fun j hj => ?_)
    simp only [V.refs, List.mem_singleton] at hj
    subst hj
    exact him j (by simp [V.arrIds, hm])
   ·cases h
  ·simp only [Qa] at h
   subst h
   exact mono _ hx
 | _ =>
  simp only [frz1, Qa] at h
  subst h
  exact mono _ hx
theorem frzAll_rel : ∀ {xs ys : List V}, frzAll m obj xs = some ys → (∀ id ∈ arrIdsAll m xs, S id) → ∀ {vs : List Value}, CList tab g obj w xs vs → CList tab ⟨g.at_, im'⟩ obj w ys vs
 | [], ys, h, him, vs => by
  simp only [frzAll, Qa] at h
  subst h
  cases vs with
  | nil => simp only [CList]; exact id
  | cons => simp only [CList]; exact id
 | x :: xs, ys, h, him, vs => by
  simp only [frzAll] at h
  split at h
  ·rename_i y ys' h1 h2
   simp only [Qa] at h
   subst h
   simp only [arrIdsAll, List.mem_append] at him
   cases vs with
   | nil => simp only [CList]; exact id
   | cons v vs =>
    simp only [CList]
    exact fun h => ⟨frz1_rel hH hi hS hC h1 (fun id hid => him id (.inl hid)) h.1, h.2.1, frzAll_rel h2 (fun id hid => him id (.inr hid)) h.2.2⟩
  ·cases h
theorem frzV_rel {x y : V} (h : frzV m obj x = some y) (him : ∀ id ∈ valIds m x, S id) {v : Value} (hx : VRel tab g obj w x v) : VRel tab ⟨g.at_, im'⟩ obj w y v := by
 cases x with
 | agg cs =>
  simp only [frzV] at h
  split at h
  ·rename_i cs' hcs
   simp only [Qa] at h
   subst h
   simp only [VRel] at hx ⊢
   obtain ⟨vs, k1, k2⟩ := hx
   exact ⟨vs, k1, frzAll_rel hH hi hS hC hcs him k2⟩
  ·cases h
 | _ => exact frz1_rel hH hi hS hC (m := m) (by simpa only [frzV] using h) (by simpa only [valIds] using him) hx
theorem frzVs_rel : ∀ {xs ys : List V}, frzVs m obj xs = some ys → (∀ id ∈ valIdsAll m xs, S id) → ∀ {vs : List Value}, VList tab g obj w xs vs → VList tab ⟨g.at_, im'⟩ obj w ys vs
 | [], ys, h, him, vs => by
  simp only [frzVs, Qa] at h
  subst h
  cases vs with
  | nil => simp only [VList]; exact id
  | cons => simp only [VList]; exact id
 | x :: xs, ys, h, him, vs => by
  simp only [frzVs] at h
  split at h
  ·rename_i y ys' h1 h2
   simp only [Qa] at h
   subst h
   simp only [valIdsAll, List.mem_append] at him
   cases vs with
   | nil => simp only [VList]; exact id
   | cons v vs =>
    simp only [VList]
    exact fun h => ⟨frzV_rel hH hi hS hC h1 (fun id hid => him id (.inl hid)) h.1, frzVs_rel h2 (fun id hid => him id (.inr hid)) h.2⟩
  ·cases h
theorem frzA_rel {x y : V} (h : frzA m obj x = some y) (him : ∀ id ∈ ansIds m x, S id) {v : Value} (hx : VRel tab g obj w x v) : VRel tab ⟨g.at_, im'⟩ obj w y v := by
 cases x with
 | tup cs =>
  simp only [frzA] at h
  split at h
  ·rename_i cs' hcs
   simp only [Qa] at h
   subst h
   simp only [VRel] at hx ⊢
   obtain ⟨vs, k1, k2⟩ := hx
   exact ⟨vs, k1, frzVs_rel hH hi hS hC hcs him k2⟩
  ·cases h
 | _ => exact frzV_rel hH hi hS hC (m := m) (by simpa only [frzA] using h) (by simpa only [ansIds] using him) hx
end
theorem settle_sound (hH : HRel tab g obj w) {h : List (Option Obj)} (hob : obj = objOf h) (hE : Evo g0 (objOf hp) w0 g obj w) {r r2 : V} {h2 : List (Option Obj)} {v : Value} (hr : VRel tab g obj w r v) (hs : settle hp.length r h = some (r2, h2)) :
  ∃ g2, HRel tab g2 (objOf h2) w ∧ Evo g0 (objOf hp) w0 g2 (objOf h2) w ∧ VRel tab g2 (objOf h2) w r2 v := by
 unfold settle at hs
 split at hs
 ·simp only [Qa, Qj] at hs
  obtain ⟨rfl, rfl⟩ := hs
  subst hob
  exact ⟨g, hH, hE, hr⟩
 ·rename_i i is hids
  have he : (fun i => (h[i]?).join) = obj := hob.symm
  rw [he] at hs
  split at hs
  ·rename_i r' F hr' hF
   split at hs
   ·cases hs
   ·rename_i L hL
    split at hs
    ·cases hs
    ·rename_i hno
     split at hs
     ·cases hs
     ·rename_i h' hren
      simp only [Qa, Qj] at hs
      obtain ⟨rfl, rfl⟩ := hs
      obtain ⟨k1, k2, k3, k4⟩ := gather_ok hH hE hL hren
      obtain ⟨_, _, f1, f2⟩ := reach_ok far _ [] F hF (by simp) (by simp)
      let im' : Nat → Nat → Prop := fun b q => g.im b q ∨ ∃ id ∈ F, owns g obj id b q
      have hi : ∀ b q, g.im b q → im' b q := fun _ _ h => .inl h
      have hv := frzA_rel hH hi (S := fun i => i ∈ F) (fun id b q hid ho => .inr ⟨id, hid, ho⟩) f2 hr' (fun id hid => f1 id (by rw [← hids]; exact hid)) hr
      have hout : ∀ id ∈ F, id ∉ L := fun id hid hmem => hno (List.any_eq_true.2 ⟨id, hid, by simpa using hmem⟩)
      refine ⟨⟨fun i => g.at_ (L.getD i 0), im'⟩, more_im k1 hi (fun k b q hk => ?_) (fun b q hb => ?_), ⟨k2.os, k2.tape, k2.output, k2.size, k2.blk, fun b q hb => hi b q (k2.im b q hb), fun b q hb => ?_, k2.ownNew, k2.kevo⟩, ?_⟩
      ·rintro (hb | ⟨id, hid, ho⟩)
       ·exact k1.imm k b q hk hb
       ·obtain ⟨j, hj, hjo⟩ := k4 k b q hk
        have := hH.one j id b q hjo ho
        subst this
        exact hout j hid hj
      ·rcases hb with hb | ⟨id, hid, ho⟩
       ·exact hH.imOld b q hb
       ·exact hH.old id b q ho
      ·rcases hb with hb | ⟨id, hid, ho⟩
       ·exact k2.imNew b q hb
       ·rcases hE.ownNew b q ⟨id, ho⟩ with h | h
        ·exact .inr (.inl h)
        ·exact .inr (.inr h)
      ·refine VRel.ren (g := ⟨g.at_, im'⟩) (obj := obj) (g2 := ⟨fun i => g.at_ (L.getD i 0), im'⟩) rfl _ _ (fun i hi => ?_) hv
       exact k3 i hi
  ·cases hs
theorem hrel_grow {w' : World} (hH : HRel tab g obj w) (hb : ∀ b, b < w.heap.size → w'.heap[b]? = w.heap[b]?) (hs : w.heap.size ≤ w'.heap.size) : HRel tab g obj w' := by
 have up : ∀ (b o : Nat) u, w.cell? (cellAt b o) = some u → w'.cell? (cellAt b o) = some u := fun b o u h => by
  have hlt : b < w.heap.size := by
   rcases Qn b w.heap.size with h1 | h1
   ·exact h1
   ·unfold World.cell? at h
    simp only [cellAt] at h
    rw [Array.getElem?_eq_none h1] at h
    cases h
  rw [← h]
  exact BlockEvo.cell (own := fun _ => False) (.inl (hb b hlt)) (fun h => h)
 have ups : ∀ (b o : Nat), (w.cell? (cellAt b o)).isSome = true → (w'.cell? (cellAt b o)).isSome = true := fun b o h => by
  obtain ⟨u, hu⟩ := Option.isSome_iff_exists.1 h
  rw [up b o u hu]; rfl
 have cellI : ∀ b o, g.im b o → w'.cell? (cellAt b o) = w.cell? (cellAt b o) := fun b o h => BlockEvo.cell (own := fun _ => False) (.inl (hb b (hH.imOld b o h))) (fun h => h)
 have hv : ∀ x v, VRel tab g obj w x v → VRel tab g obj w' x v := fun x v h => VRel.mono (.refl g obj) (fun _ _ h => h) cellI x v h
 refine ⟨fun id o ho => ?_, hH.imm, hH.one, fun id b o h => Nat.lt_of_lt_of_le (hH.old id b o h) hs, fun id b o h hm q => ?_, fun b o h => Nat.lt_of_lt_of_le (hH.imOld b o h) hs⟩
 ·have h0 := hH.ob id o ho
  cases o with
  | box cs =>
   obtain ⟨h1, us, h2, h3⟩ := h0
   exact ⟨h1, us, CList.mono (.refl g obj) (fun _ _ h => h) cellI cs us h2, fun q u hq => up _ _ u (h3 q u hq)⟩
  | cst ds => exact DCells.mono (fun _ _ h => h) cellI ds _ _ h0
  | tok v sz => exact fun q hq => ups _ _ (h0 q hq)
  | arr v sz xs =>
   obtain ⟨h1, h2, h4, h5⟩ := h0
   exact ⟨h1, h2, fun q hq => ups _ _ (h4 q hq), fun i r q x hi hq => by
    obtain ⟨u, h6, h7, h8⟩ := h5 i r q x hi hq
    exact ⟨u, up _ _ u h6, hv x u h7, h8⟩⟩
  | map kvs =>
   obtain ⟨es, clock, h1, h2⟩ := h0
   have hlt : (g.at_ id).blk < w.heap.size := hH.old id _ 0 (by unfold owns; rw [ho])
   exact ⟨es, clock, by rw [hb _ hlt]; exact h1, MRel.mono (.refl g obj) (fun _ _ h => h) cellI kvs es.toList _ h2⟩
  | cmap kvs =>
   obtain ⟨hi, es, clock, h1, h2⟩ := h0
   exact ⟨hi, es, clock, by rw [hb _ (hH.imOld _ _ hi)]; exact h1, MRel.mono (.refl g obj) (fun _ _ h => h) cellI kvs es.toList _ h2⟩
  | lp j key caps =>
   obtain ⟨r, R, h1, h2, h3, h4, h5, h6, h7, h8, h9⟩ := h0
   have hlt : (g.at_ id).blk < w.heap.size := hH.old id _ 0 (by unfold owns; rw [ho])
   exact ⟨r, R, by rw [hb _ hlt]; exact h1, h2, h3, h4, h5, h6, h7, h8, VList.mono (.refl g obj) (fun _ _ h => h) cellI caps _ h9⟩
 ·rw [(BlockEvo.frozen (own := fun _ => False) (.inl (hb b (hH.old id b o h))))]
  exact hH.frz id b o h hm q
theorem lendArgs_rel (hH : HRel tab g obj w) (gl : Gh) (hg : gl.im = lentIm g obj) (ob2 : Nat → Option Obj) : ∀ (vs ds : List V) (us : List Value), VList tab g obj w vs us → lendArgs obj vs = some ds → VList tab gl ob2 w ds us
 | [], ds, us, hv, h => by
  simp only [lendArgs, Qa] at h
  subst h
  cases us with
  | nil => simp only [VList]
  | cons => simp only [VList] at hv
 | v :: vs, ds, us, hv, h => by
  cases us with
  | nil => simp only [VList] at hv
  | cons u us =>
   simp only [VList] at hv
   have one : ∀ d r, V.lend obj far v = some d → lendArgs obj vs = some r → ds = .d d :: r → VList tab gl ob2 w ds (u :: us) := fun d r h1 h2 e => by
    subst e
    simp only [VList, VRel]
    exact ⟨by rw [hg]; exact lend_rel hH (fun _ _ h => .inl h) (fun id b q _ h => .inr ⟨id, h⟩) (S := fun _ => True) (fun _ _ _ _ => trivial) far v u d hv.1 h1 (fun _ _ => trivial), lendArgs_rel hH gl hg ob2 vs r us hv.2 h2⟩
   cases v with
   | agg cs =>
    simp only [lendArgs] at h
    split at h
    ·rename_i d r h1 h2
     simp only [Qa] at h
     subst h
     have hv1 := hv.1
     simp only [VRel] at hv1
     obtain ⟨us0, rfl, hc⟩ := hv1
     simp only [VList, VRel]
     refine ⟨⟨us0, rfl, CList.ofDs (g := gl) ?_⟩, lendArgs_rel hH gl hg ob2 vs r us hv.2 h2⟩
     rw [hg]; exact lendAll_rel hH (fun _ _ h => .inl h) (fun id b q _ h => .inr ⟨id, h⟩) (S := fun _ => True) (fun _ _ _ _ => trivial) far cs us0 d hc h1 (fun _ _ => trivial)
    ·cases h
   | _ =>
    simp only [lendArgs] at h
    split at h
    ·rename_i d r h1 h2
     simp only [Qa] at h
     exact one d r h1 h2 h.symm
    ·cases h
theorem lend_okC {C : List Value → World → (Ending → World → Prop) → Prop} (hC : ∀ vs w R R', C vs w R → (∀ e w', R e w' → R' e w') → C vs w R') {call : CallF} {key : Nat} (hF : FnC tab C (call key)) : FnC tab C (frzCall .lend call key) := by
 intro args h r h' hc g w vs hH hv
 simp only [frzCall] at hc
 split at hc
 ·cases hc
 ·rename_i ds hds
  split at hc
  ·rename_i r1 hcall
   split at hc
   ·rename_i hsc
    simp only [Qa, Qj] at hc
    obtain ⟨rfl, rfl⟩ := hc
    have hnone : objOf [] = fun _ => none := rfl
    have hold : ∀ b o, lentIm g (objOf h) b o → b < w.heap.size := fun b o hb => by
     rcases hb with hb | ⟨id, hb⟩
     ·exact hH.imOld b o hb
     ·exact hH.old id b o hb
    have hl := lendArgs_rel hH ⟨g.at_, lentIm g (objOf h)⟩ rfl (objOf []) args ds vs hv hds
    have hempty : HRel tab ⟨g.at_, lentIm g (objOf h)⟩ (objOf []) w := by
     rw [hnone]
     constructor
     ·intro i o ho; cases ho
     ·intro i b o ho; exact ho.elim
     ·intro i j b o ho; exact ho.elim
     ·intro i b o ho; exact ho.elim
     ·intro i b o ho; exact ho.elim
     ·exact hold
    have := hF ds [] r1 [] hcall ⟨g.at_, lentIm g (objOf h)⟩ w vs hempty hl
    refine hC _ _ _ _ this fun e w' ⟨v, g', he, k1, k2, k3⟩ => ?_
    have hblk : ∀ b, b < w.heap.size → w'.heap[b]? = w.heap[b]? := fun b hb => by
     have hno : ∀ o, ¬ owned ⟨g.at_, lentIm g (objOf h)⟩ (objOf []) b o := fun o ⟨i, hi⟩ => hi
     rcases k2.blk b hb with q | ⟨c, c', t, fr, q1, q2, q3, q4⟩ | ⟨es, cl, es', cl', q1, q2, q3⟩ | ⟨r, st, pe, q1, q2, q3⟩
     ·exact q
     ·rw [q1, q2]
      have : c' = c := Array.ext_getElem? fun i => q4 i (hno i)
      rw [this]
     ·exact absurd (q3 0) (hno 0)
     ·exact absurd (q3 0) (hno 0)
    refine ⟨v, g, he, hrel_grow hH hblk k2.size, ⟨k2.os, k2.tape, k2.output, k2.size, fun b hb => .inl (hblk b hb), fun _ _ h => h, fun _ _ h => .inl h, fun _ _ h => .inl h, .refl _ _⟩, ?_⟩
    unfold V.scal at hsc
    split at hsc
    ·simp only [VRel, DRel] at k3 ⊢; exact k3
    ·simp only [VRel, DRel] at k3 ⊢; exact k3
    ·simp only [VRel, DRel] at k3 ⊢; exact k3
    ·cases hsc
   ·cases hc
  ·cases hc
theorem frz_okC {C : List Value → World → (Ending → World → Prop) → Prop} (hC : ∀ vs w R R', C vs w R → (∀ e w', R e w' → R' e w') → C vs w R') {call : CallF} {key : Nat} (hF : FnC tab C (call key)) (fz : Md) : FnC tab C (frzCall fz call key) := by
 cases fz with
 | keep => exact hF
 | raw => exact hF
 | lend => exact lend_okC hC hF
 | frz =>
  intro args h r h' hc g w vs hH hv
  simp only [frzCall] at hc
  split at hc
  ·rename_i r1 h1 hc1
   have := hF args h r1 h1 hc1 g w vs hH hv
   refine hC _ _ _ _ this fun e w' ⟨v, g', he, k1, k2, k3⟩ => ?_
   obtain ⟨g2, q1, q2, q3⟩ := settle_sound k1 rfl k2 k3 hc
   exact ⟨v, g2, he, q1, q2, q3⟩
  ·cases hc
theorem frz_ok {call : CallF} {fid key : Nat} (hF : FnOk P tab fid (call key)) (fz : Md) : FnOk P tab fid (frzCall fz call key) :=
 frz_okC (C := fun vs w R => Calls P fid vs.toArray w R) (fun _ _ _ _ h k => h.mono k) hF fz
end
open Go
open Go.RowKit (Below)
def putF (dst : Option Nat) (x : V) (get : Nat → V) : Nat → V := match dst with
 | some d => fun t => if d = t then x else get t
 | none => get
def Eff.getF (e : Eff) (get : Nat → V) : Nat → V := putF e.dst e.v get
def Eff.objF (e : Eff) (obj : Nat → Option Obj) : Nat → Option Obj :=
 updL (if e.wr then updL obj e.ids e.os else obj) (List.range' e.fresh e.nws.length) e.nws
def wantedF (get : Nat → V) : Option (Nat × Bool) → Option Bool
 | none => some true
 | some (t, want) => match get t with
  | .d (.b x) => some (x == want)
  | .tup [] => some false
  | _ => none
def effF (call : CallF) (get : Nat → V) (obj : Nat → Option Obj) (c : CO) (fresh : Nat) : Option Eff :=
 match wantedF get c.guard with
 | none => none
 | some false => some ⟨c.dst, .undef, [], false, [], fresh, []⟩
 | some true =>
  if c.op.isCall then match callee c.op (c.op.args.map (evA get)) with
   | none => none
   | some (key, vs, res, fz) => match enterCall (frzCall fz call) fz obj key vs res fresh with
    | none => none
    | some (r, is, os, ns) => some ⟨c.dst, r, is, true, os, fresh, ns⟩
  else match act c.op (c.op.args.map (evA get)) ((c.op.ids (c.op.args.map (evA get))).map obj) fresh with
   | none => none
   | some r => some ⟨c.dst, r.v, c.op.ids (c.op.args.map (evA get)), c.op.wr, r.os, fresh, r.nws⟩
theorem ev_eq (s : St) : s.ev = evA s.get := by
 funext a; cases a <;> rfl
theorem opEff_eq {call : CallF} (s : St) (o : CO) (fresh : Nat) : opEff call s o fresh = effF call s.get s.obj o fresh := by
 unfold opEff effF
 rw [ev_eq]
 have : wanted s o.guard = wantedF s.get o.guard := by cases o.guard <;> rfl
 rw [this]
 rfl
theorem freezeCaps_some : ∀ {vs : List V} {obj : Nat → Option Obj} {c : List D} {os' : List (Option Obj)}, freezeCaps vs ((ptrIds vs).map obj) = some (c, os') → (∀ id ∈ ptrIds vs, (obj id).isSome = true) ∧ os'.length = (ptrIds vs).length ∧ ∀ o ∈ os', o.isSome = true
 | [], obj, c, os', h => by
  simp only [ptrIds, Qc, freezeCaps, Qa, Qj] at h
  obtain ⟨rfl, rfl⟩ := h
  simp [ptrIds]
 | v :: vs, obj, c, os', h => by
  by_cases hp : ∃ id off, v = .ptr id off
  ·obtain ⟨id, off, rfl⟩ := hp
   simp only [ptrIds, Qb] at h
   cases ho : obj id with
   | none => simp [freezeCaps, ho] at h
   | some ob =>
    cases ob with
    | box cs =>
     simp only [freezeCaps, ho] at h
     split at h
     ·rename_i ds c1 os1 hds hrest
      simp only [Qa, Qj] at h
      obtain ⟨rfl, rfl⟩ := h
      obtain ⟨h1, h2, h3⟩ := freezeCaps_some hrest
      refine ⟨fun j hj => ?_, by simp [ptrIds, h2], fun o ho' => ?_⟩
      ·rcases List.mem_cons.1 hj with rfl | hj
       ·rw [ho]; rfl
       ·exact h1 j hj
      ·rcases List.mem_cons.1 ho' with rfl | ho'
       ·rfl
       ·exact h3 o ho'
     ·cases h
    | cst ds =>
     simp only [freezeCaps, ho] at h
     split at h
     ·rename_i c1 os1 hrest
      simp only [Qa, Qj] at h
      obtain ⟨rfl, rfl⟩ := h
      obtain ⟨h1, h2, h3⟩ := freezeCaps_some hrest
      refine ⟨fun j hj => ?_, by simp [ptrIds, h2], fun o ho' => ?_⟩
      ·rcases List.mem_cons.1 hj with rfl | hj
       ·rw [ho]; rfl
       ·exact h1 j hj
      ·rcases List.mem_cons.1 ho' with rfl | ho'
       ·rfl
       ·exact h3 o ho'
     ·cases h
    | _ => simp [freezeCaps, ho] at h
  ·have hp : ∀ id off, v ≠ .ptr id off := fun id off e => hp ⟨id, off, e⟩
   rw [ptrIds_other hp] at h ⊢
   rw [freezeCaps_other hp] at h
   split at h
   ·rename_i d c1 os1 hd hrest
    simp only [Qa, Qj] at h
    obtain ⟨rfl, rfl⟩ := h
    exact freezeCaps_some hrest
   ·cases h
section
theorem act_ids {cop : Cop} (hw : cop.wr = true) {vs : List V} {obj : Nat → Option Obj} {fresh : Nat} {r : Res} (h : act cop vs ((cop.ids vs).map obj) fresh = some r) :
  (∀ id ∈ cop.ids vs, (obj id).isSome = true) ∧ r.os.length = (cop.ids vs).length ∧ ∀ o ∈ r.os, o.isSome = true := by
 have one : ∀ (id : Nat) (x y : Obj), obj id = some x → (∀ j ∈ [id], (obj j).isSome = true) ∧ [some y].length = [id].length ∧ ∀ o ∈ [some y], o.isSome = true := fun id x y hx => by
  refine ⟨fun j hj => ?_, rfl, fun o ho => ?_⟩
  ·simp only [List.mem_singleton] at hj; subst hj; rw [hx]; rfl
  ·simp only [List.mem_singleton] at ho; subst ho; rfl
 cases cop <;> simp only [Cop.wr] at hw <;> try (cases hw; done)
 case st n a v =>
  simp only [act] at h
  split at h
  ·rename_i os' hos
   simp only [Qa] at h
   subst h
   cases vs with
   | nil => simp [actSt] at hos
   | cons x vs =>
    cases vs with
    | nil => cases x <;> simp [actSt] at hos
    | cons y vs =>
     cases vs with
     | cons => cases x <;> simp [actSt] at hos
     | nil =>
      cases x with
      | ptr id off =>
       simp only [Cop.ids, Qb, Qc] at hos ⊢
       cases ho : obj id with
       | none => simp [actSt, ho] at hos
       | some ob =>
        cases ob <;> simp only [actSt, ho] at hos <;> try (cases hos; done)
        split at hos
        ·split at hos
         ·split at hos
          ·simp only [Qa] at hos; subst hos; exact one id _ _ ho
          ·cases hos
         ·cases hos
        ·cases hos
      | pm id ver idx off =>
       simp only [Cop.ids, Qb, Qc] at hos ⊢
       cases ho : obj id with
       | none => simp [actSt, ho] at hos
       | some ob =>
        cases ob <;> simp only [actSt, ho] at hos <;> try (cases hos; done)
        split at hos
        ·split at hos
         ·split at hos
          ·split at hos
           ·simp only [Qa] at hos; subst hos; exact one id _ _ ho
           ·cases hos
          ·cases hos
         ·cases hos
        ·cases hos
      | _ => simp [actSt] at hos
  ·cases h
 case frz x =>
  simp only [act] at h
  cases vs with
  | nil => simp [actFrz] at h
  | cons x vs =>
   cases vs with
   | cons => cases x <;> simp [actFrz] at h
   | nil =>
    cases x with
    | arr id ver off len =>
     simp only [Cop.ids, Qb, Qc] at h ⊢
     cases ho : obj id with
     | none => simp [actFrz, ho] at h
     | some ob =>
      cases ob <;> simp only [actFrz, ho] at h <;> try (cases h; done)
      split at h
      ·split at h
       ·simp only [Qa] at h; subst h; exact one id _ _ ho
       ·cases h
      ·cases h
    | _ =>
     simp only [Cop.ids, Qc, actFrz, Qa] at h
     subst h
     simp [Cop.ids]
 case mkf key f c frz =>
  cases frz with
  | false => simp at hw
  | true =>
   simp only [act, if_true] at h
   split at h
   ·rename_i c' os' hn hfz
    simp only [Qa] at h
    subst h
    exact freezeCaps_some hfz
   ·split at h
    ·rename_i hall
     simp only [Qa] at h
     subst h
     rw [List.all_eq_true] at hall
     simp only [Cop.ids]
     exact ⟨fun j hj => hall _ (List.mem_map.2 ⟨j, hj, rfl⟩), by simp, hall⟩
    ·cases h
   ·cases h
 case apz sz bytes z a b =>
  simp only [act] at h
  unfold actApz at h
  split at h
  ·split at h
   ·simp only [Qa] at h
    subst h
    simp [Cop.ids]
   ·cases h
  ·cases h
 case apa sz bytes a b =>
  simp only [act] at h
  have src : ∀ y ys, arrMore sz y ((arrIs y).map obj) = some ys → ∀ i ∈ arrIs y, (obj i).isSome = true := fun y ys hy i hi => by
   cases y <;> simp only [arrIs, List.mem_singleton, List.not_mem_nil] at hi
   subst hi
   simp only [arrIs, Qb, Qc, arrMore] at hy
   split at hy
   ·rename_i q _ _ _ heq
    simp only [List.cons.injEq, and_true] at heq
    rw [heq]; rfl
   ·rename_i heq; simp at heq
   ·cases hy
  cases vs with
  | nil => simp [actApa] at h
  | cons x vs =>
   cases vs with
   | nil => simp [actApa] at h
   | cons y vs =>
    cases vs with
    | cons => simp [actApa] at h
    | nil =>
     cases x with
     | nil n =>
      rw [apa_ids_nil] at h ⊢
      simp only [actApa, apaNil] at h
      split at h
      ·rename_i ys hys
       split at h
       ·simp only [Qa] at h; subst h
        exact ⟨src y ys hys, by simp, fun o ho => by obtain ⟨i, hi, rfl⟩ := List.mem_map.1 ho; exact src y ys hys i hi⟩
       ·cases h
      ·cases h
     | arr id ver off len =>
      rw [apa_ids_arr] at h ⊢
      simp only [actApa, Qb] at h
      unfold apaArr at h
      split at h
      ·rename_i ver' sz' xs os heq
       simp only [List.cons.injEq] at heq
       obtain ⟨ho2, rfl⟩ := heq
       split at h
       ·split at h
        ·rename_i ys hys
         split at h
         ·simp only [Qa] at h; subst h
          refine ⟨fun j hj => ?_, by simp, fun o ho => ?_⟩
          ·rcases List.mem_cons.1 hj with rfl | hj
           ·rw [ho2]; rfl
           ·exact src y ys hys j hj
          ·rcases List.mem_cons.1 ho with rfl | ho
           ·rfl
           ·obtain ⟨i, hi, rfl⟩ := List.mem_map.1 ho; exact src y ys hys i hi
         ·cases h
        ·cases h
       ·cases h
      ·cases h
     | _ => simp [actApa] at h
 case app sz bytes a b =>
  simp only [act] at h
  cases vs with
  | nil => simp [actApp] at h
  | cons x vs =>
   cases vs with
   | nil => cases x <;> simp [actApp] at h
   | cons y vs =>
    cases vs with
    | cons => cases x <;> simp [actApp] at h
    | nil =>
     cases x with
     | nil n =>
      simp only [Cop.ids, Qc, actApp] at h ⊢
      split at h
      ·split at h
       ·simp only [Qa] at h; subst h; simp
       ·cases h
      ·cases h
     | own id ver sz' xs =>
      simp only [Cop.ids, Qb, Qc] at h ⊢
      cases ho : obj id with
      | none => simp [actApp, ho] at h
      | some ob =>
       cases ob <;> simp only [actApp, ho] at h <;> try (cases h; done)
       split at h
       ·split at h
        ·split at h
         ·simp only [Qa] at h; subst h; exact one id _ _ ho
         ·cases h
        ·cases h
       ·cases h
     | _ => simp [actApp] at h
 case mu ag ks m k v =>
  simp only [act] at h
  split at h
  ·rename_i os' hos
   simp only [Qa] at h
   subst h
   cases vs with
   | nil => simp [actMu] at hos
   | cons x vs =>
    match vs with
    | [] => cases x <;> simp [actMu] at hos
    | [_] => cases x <;> simp [actMu] at hos
    | _ :: _ :: _ :: _ => cases x <;> simp [actMu] at hos
    | [y, z] =>
     cases x with
     | map id =>
      simp only [Cop.ids, Qb, Qc] at hos ⊢
      cases ho : obj id with
      | none => simp [actMu, ho] at hos
      | some ob =>
       cases ob <;> simp only [actMu, ho] at hos <;> try (cases hos; done)
       split at hos
       ·split at hos
        ·simp only [Qa] at hos; subst hos; exact one id _ _ ho
        ·cases hos
       ·cases hos
     | _ => simp [actMu] at hos
  ·cases h
 case del ag ks m k =>
  simp only [act] at h
  split at h
  ·rename_i os' hos
   simp only [Qa] at h
   subst h
   cases vs with
   | nil => simp [actDel] at hos
   | cons x vs =>
    match vs with
    | [] => cases x <;> simp [actDel] at hos
    | _ :: _ :: _ => cases x <;> simp [actDel] at hos
    | [y] =>
     cases x with
     | map id =>
      simp only [Cop.ids, Qb, Qc] at hos ⊢
      cases ho : obj id with
      | none => simp [actDel, ho] at hos
      | some ob =>
       cases ob <;> simp only [actDel, ho] at hos <;> try (cases hos; done)
       split at hos
       ·split at hos
        ·simp only [Qa] at hos; subst hos; exact one id _ _ ho
        ·cases hos
       ·cases hos
     | _ => simp [actDel] at hos
  ·cases h
theorem act_fresh {cop : Cop} (hm : cop.mk = false) {vs : List V} {os : List (Option Obj)} (f f' : Nat) : act cop vs os f = act cop vs os f' := by
 cases cop <;> first | rfl | (simp [Cop.mk] at hm; done)
theorem act_nw {cop : Cop} (hm : cop.mk = false) {vs : List V} {os : List (Option Obj)} {f : Nat} {r : Res} (h : act cop vs os f = some r) : r.nw = none := by
 cases cop <;> simp only [Cop.mk] at hm <;> try (cases hm; done)
 case frz x =>
  simp only [act] at h
  unfold actFrz at h
  (repeat' split at h) <;> first | (simp only [Qa] at h; subst h; rfl) | (cases h; done)
 all_goals (simp only [act, optV, optD] at h)
 all_goals (repeat' split at h)
 all_goals (first | (simp only [Qa] at h; subst h; rfl) | (cases h; done))
theorem act_any {cop : Cop} {vs : List V} {os : List (Option Obj)} {f : Nat} {r : Res} (h : act cop vs os f = some r) (hn : r.nw = none) (f' : Nat) : act cop vs os f' = some r := by
 cases hm : cop.mk with
 | false => rw [act_fresh hm f' f]; exact h
 | true =>
  cases cop <;> simp only [Cop.mk] at hm <;> try (cases hm; done)
  case app sz bytes a b =>
   simp only [act] at h ⊢
   unfold actApp at h ⊢
   split at h
   ·split at h
    ·split at h
     ·simp only [Qa] at h; subst h; cases hn
     ·cases h
    ·cases h
   ·exact h
   ·cases h
  case apa sz bytes a b =>
   simp only [act, actApa] at h ⊢
   split at h
   ·split at h
    ·unfold apaNil at h
     split at h
     ·split at h
      ·simp only [Qa] at h; subst h; cases hn
      ·cases h
     ·cases h
    ·exact h
    ·cases h
   ·cases h
  case apz sz bytes z a b =>
   simp only [act] at h ⊢
   unfold actApz at h ⊢
   split at h
   ·split at h
    ·simp only [Qa] at h; subst h; cases hn
    ·cases h
   ·cases h
  all_goals (simp only [act] at h)
  all_goals (repeat' split at h)
  all_goals (first | (simp only [Qa] at h; subst h; cases hn; done) | (cases h; done))
end
open Go
open Go.RowKit (Below)
section
variable {P : Program} {tab : Tab} {call : CallF} {ds : List Deferred}
theorem updL_nil (obj : Nat → Option Obj) : updL obj [] [] = obj := rfl
theorem updL_one (obj : Nat → Option Obj) (i : Nat) (o : Option Obj) : updL obj [i] [o] = updO obj i o := rfl
structure Go1 (tab : Tab) (nt : Nat) (g0 : Gh) (obj0 : Nat → Option Obj) (w0 : World) (ds : List Deferred) (g : Gh) (get : Nat → V) (obj : Nat → Option Obj) (a : Act) (w : World) : Prop where
 rel : Rel tab nt g get obj a w
 evo : Evo g0 obj0 w0 g obj w
 df : a.defers = ds
theorem put_df {a : Act} {ds : List Deferred} (h : a.defers = ds) (dst : Option Nat) (v : Value) : (a.put dst v).defers = ds := by cases dst <;> exact h
theorem Rel.put {nt : Nat} {g : Gh} {get : Nat → V} {obj : Nat → Option Obj} {a : Act} {w : World} (hR : Rel tab nt g get obj a w) {g' : Gh} {obj' : Nat → Option Obj} {w' : World} (hP : Post tab g obj w g' obj' w') {dst : Option Nat} (hd : ∀ d, dst = some d → d < nt) {x : V} {v : Value} (hv : VRel tab g' obj' w' x v)
  {get' : Nat → V} (hg : get' = putF dst x get) : Rel tab nt g' get' obj' (a.put dst v) w' := by
 subst hg
 cases dst with
 | none => exact ⟨fun t => hP.vals _ _ (hR.tmp t), hR.size, hP.heap⟩
 | some d =>
  have hlt : d < a.tmps.size := Nat.lt_of_lt_of_le (hd d rfl) hR.size
  refine ⟨fun t => ?_, by simp [Act.put]; exact hR.size, hP.heap⟩
  simp only [Act.put, putF]
  by_cases e : d = t
  ·subst e
   simp only [if_true]
   rw [Array.getD_eq_getD_getElem?, Array.getElem?_setIfInBounds_self_of_lt hlt]
   exact hv
  ·simp only [e, if_false]
   rw [Array.getD_eq_getD_getElem?, Array.getElem?_setIfInBounds_ne e, ← Array.getD_eq_getD_getElem?]
   exact hP.vals _ _ (hR.tmp t)
theorem wanted_rel {ops : Array Oper} {o : Oper} {g : Option (Nat × Bool)} (hg : compGuard ops o.guard = some g) {nt : Nat} {gh : Gh} {get : Nat → V} {obj : Nat → Option Obj} {a : Act} {w : World} (hR : Rel tab nt gh get obj a w) {b : Bool} (hb : wantedF get g = some b) : Region.wanted o (yielded ops a.tmps) = b := by
 unfold Region.wanted
 cases hog : o.guard with
 | none =>
  simp only [hog, compGuard, Qa] at hg
  subst hg
  simpa [wantedF] using hb
 | some p =>
  obtain ⟨j, want⟩ := p
  simp only [hog, compGuard] at hg
  split at hg
  ·rename_i t ht
   simp only [Qa] at hg
   subst hg
   have hx := hR.tmp t
   simp only [wantedF] at hb
   have hy : yielded ops a.tmps j = match a.tmps.getD t undef with | .bool b => some b | _ => none := by
    unfold yielded
    rw [ht, Option.bind_some]
    rw [Array.getD_eq_getD_getElem?]
    cases hq : a.tmps[t]? with
    | none => simp [undef]
    | some v => cases v <;> simp
   show (yielded ops a.tmps j == some want) = b
   rw [hy]
   generalize get t = gv at hx hb
   cases gv with
   | d x =>
    cases x with
    | b y =>
     simp only [VRel, DRel] at hx
     simp only [Qa] at hb
     rw [hx, ← hb]
     cases y <;> cases want <;> rfl
    | _ => simp at hb
   | tup ws =>
    cases ws with
    | nil =>
     simp only [VRel] at hx
     obtain ⟨vs, hx, _⟩ := hx
     simp only [Qa] at hb
     rw [hx, ← hb]
     rfl
    | cons => simp at hb
   | _ => simp at hb
  ·cases hg
theorem callsIn_fen {r : Option Nat} {m : Nat} {P : Program} {f : FuncId} {args : Array Value} {w : World} {R : Ending → World → Prop} (h : Calls P f args w R) : CallsIn (fen r) m P f args w R :=
 (callsIn_wide (n := m)).2 h
theorem oper_in {P : Program} {r : Option Nat} {m : Nat} {o : Oper} {a : Act} {w : World} {K : Act → World → Prop} {Q : Exit → Act → World → Prop} (hd : ∀ c, o.op ≠ .defer c) (h : o.wp P a w K Q) : o.wpIn (fen r) m P a w K Q := by
 refine ⟨fun _ _ => trivial, ?_⟩
 rw [Oper.semAt_eq _ _ _ hd]
 unfold Oper.wp at h
 generalize (execOp a.eval o).run P w = x at h
 have hz : (fen r).depth.isSome = true → 1 ≤ m := fun e => by simp [Fence.wide] at e
 cases x with
 | ok y w' =>
  cases y with
  | value v => exact h
  | skip => exact h
  | defer d => exact h
  | enter f args => exact ⟨hz, callsIn_fen h⟩
  | row row args => exact ⟨hz, fun c cs hr => let ⟨v, w', k, s⟩ := h c cs; ⟨v, w', k, stepsIn_wide.2 s⟩⟩
  | _ => exact h.elim
 | halt y w' =>
  cases y with
  | panic v => exact h
  | _ => exact h.elim
theorem no_defer {P : Program} {tab : Tab} {fz : Bool} {fl : Nat} {o : Oper} {c : Cop} (h : compOp0 P tab fz fl o = some c) : ∀ d, o.op ≠ .defer d := fun d e => by
 unfold compOp0 at h
 rw [e] at h
 cases h
theorem no_defer' {P : Program} {tab : Tab} {fl : Nat} {o : Oper} {c : Cop} (h : compOp P tab fl o = some c) (hc : c ≠ .die) : ∀ d, o.op ≠ .defer d := by
 unfold compOp at h
 split at h
 ·rename_i c' h'
  exact no_defer h'
 ·cases h; exact absurd rfl hc
theorem op_step {rd : Option Nat} {dp : Nat} (hB : BodyOk P tab) (hCall : CallOk P tab call) {ops : Array Oper} {i : Nat} {o : Oper} (hi : ops[i]? = some o) {frz : Nat} {c : CO} (hcop : compOp P tab frz o = some c.op) (hdst : c.dst = o.dst) {nt : Nat} (hd : ∀ d, o.dst = some d → d < nt)
  (hg : compGuard ops o.guard = some c.guard) {g0 : Gh} {obj0 : Nat → Option Obj} {w0 : World} {g : Gh} {get : Nat → V} {obj : Nat → Option Obj} {a : Act} {w : World} (hR : Go1 tab nt g0 obj0 w0 ds g get obj a w) {fresh : Nat} (hex : ∃ f, obj f = none) {e : Eff} (hf : ∀ k, k < e.nws.length → obj (fresh + k) = none) (he : effF call get obj c fresh = some e)
  {K : Act → World → Prop} {Q : Exit → Act → World → Prop} (hK : ∀ g' a' w', Go1 tab nt g0 obj0 w0 ds g' (e.getF get) (e.objF obj) a' w' → K a' w') : wpOpIn (fen rd) dp P ops Q i K a w := by
 unfold wpOpIn
 simp only [hi]
 unfold effF at he
 split at he
 ·cases he
 ·rename_i hw
  rw [wanted_rel hg hR.rel hw]
  simp only [Qm, if_false]
  simp only [Qa] at he
  subst he
  refine ⟨fun _ _ => trivial, hK g _ w ⟨hR.rel.put (.refl hR.rel.heap) hd (undef_rel) ?_, hR.evo, put_df hR.df _ _⟩⟩
  simp only [Eff.getF, hdst]
 ·rename_i hw
  rw [wanted_rel hg hR.rel hw]
  simp only [if_true]
  split at he
  ·rename_i hcall
   split at he
   ·cases he
   ·rename_i key vs res fz hcl
    split at he
    ·cases he
    ·rename_i r is os ns hent
     simp only [Qa] at he
     subst he
     have hnd := no_defer' hcop (fun e => by rw [e] at hcall; cases hcall)
     obtain ⟨us, q2, ⟨f, q1, q3⟩ | ⟨l, xs, ⟨R, q1⟩, q4, q3⟩⟩ := enter_sound hB hcop hcall hR.rel hcl
     case inr =>
      obtain ⟨l', xs', rec, e1, e2, e3, e4⟩ := enter_postC RndC.mono (frz_okC RndC.mono (hCall.rnd key R q1) fz) hR.rel.heap q2 hent hf
      rw [q4] at e1
      cases e1
      refine ⟨fun _ _ => trivial, ?_⟩
      rw [Oper.semAt_eq _ _ _ hnd, q3, run_yield e2 e3, Oper.uponIn_round]
      refine ⟨fun e => by simp [Fence.wide] at e, (e4 rd (dp - 1)).mono fun e w' ⟨v, g', he, k1, k2⟩ => ?_⟩
      subst he
      exact hK g' _ w' ⟨hR.rel.put k1 hd k2 (by simp only [Eff.getF, hdst]), hR.evo.trans k1.evo, put_df hR.df _ _⟩
     refine oper_in hnd ?_
     have := enter_post (frz_ok (hCall.fn f key q1) fz) hR.rel.heap q2 hent hf
     unfold Oper.wp
     rw [q3, Oper.upon_enter]
     intro cs
     obtain ⟨e, w', fr, ⟨v, g', he, k1, k2⟩, m2, m3, m4⟩ := this cs
     refine ⟨e, w', fr, ?_, m2, m3, m4⟩
     subst he
     exact hK g' _ w' ⟨hR.rel.put k1 hd k2 (by simp only [Eff.getF, hdst]), hR.evo.trans k1.evo, put_df hR.df _ _⟩
  ·rename_i hcall
   have hcall : c.op.isCall = false := by simpa using hcall
   split at he
   ·cases he
   ·rename_i r hr
    simp only [Qa] at he
    subst he
    refine oper_in (no_defer' hcop (fun e => by rw [e] at hr; cases hr)) ?_
    obtain ⟨f', hf', hr'⟩ : ∃ f', obj f' = none ∧ (act c.op (c.op.args.map (evA get)) ((c.op.ids (c.op.args.map (evA get))).map obj) f' = some r ∧ (r.nw ≠ none → f' = fresh)) := by
     cases hm : r.nw with
     | some x =>
      exact ⟨fresh, by simpa using hf 0 (by simp [Res.nws, hm]), hr, fun _ => rfl⟩
     | none =>
      obtain ⟨f, hf⟩ := hex
      exact ⟨f, hf, act_any hr hm f, fun h => absurd rfl h⟩
    refine act_sound hcop hcall nt g get obj a w hR.rel f' r hf' hr'.1 K Q (fun g' v w' k1 k2 => ?_)
    have hres : (⟨c.dst, r.v, c.op.ids (c.op.args.map (evA get)), c.op.wr, r.os, fresh, r.nws⟩ : Eff).objF obj = resO obj c.op.wr (c.op.ids (c.op.args.map (evA get))) r f' := by
     unfold Eff.objF resO
     unfold Res.nws
     cases hnw : r.nw with
     | none => rfl
     | some x =>
      rw [hr'.2 (by simp [hnw])]
      rfl
    refine hK g' _ w' ⟨?_, hR.evo.trans ?_, put_df hR.df _ _⟩
    ·rw [hres]
     refine hR.rel.put k1 hd k2 ?_
     simp only [Eff.getF, hdst]
    ·rw [hres]; exact k1.evo
theorem look_cons (i : Nat) (v : V) (l : List (Nat × V)) (j : Nat) : look ((i, v) :: l) j = if i = j then v else look l j := rfl
theorem on_get (e : Eff) (s : St) : (e.on s).get = e.getF s.get := by
 funext t
 unfold Eff.on Eff.getF
 cases e.dst with
 | none => rfl
 | some d => simp only [St.put, St.set, St.get, look_cons, putF]
theorem obj_set {h : List (Option Obj)} {tm tm' : List (Nat × V)} {i : Nat} {o : Option Obj} (hi : i < h.length) : (⟨tm, h.set i o⟩ : St).obj = updO (⟨tm', h⟩ : St).obj i o := by
 funext j
 unfold St.obj updO
 simp only
 by_cases e : j = i
 ·subst e; simp [hi]
 ·rw [List.getElem?_set_ne (by omega)]; simp [e]
theorem setObjs_length : ∀ (is : List Nat) (os h : List (Option Obj)), (setObjs h is os).length = h.length
 | [], _, _ => by simp [setObjs]
 | _ :: _, [], _ => by simp [setObjs]
 | i :: is, o :: os, h => by simp only [setObjs]; rw [setObjs_length]; simp
theorem obj_setObjs {tm : List (Nat × V)} : ∀ (is : List Nat) (os h : List (Option Obj)), (∀ i ∈ is, i < h.length) → (⟨tm, setObjs h is os⟩ : St).obj = updL (⟨tm, h⟩ : St).obj is os
 | [], _, _, _ => by simp [setObjs, updL]
 | _ :: _, [], _, _ => by simp [setObjs, updL]
 | i :: is, o :: os, h, hi => by
  simp only [setObjs, updL]
  rw [obj_setObjs is os (h.set i o) (fun j hj => by simp; exact hi j (by simp [hj]))]
  rw [obj_set (tm' := tm) (hi i (by simp))]
theorem on_obj (e : Eff) (s : St) (h1 : e.wr = true → ∀ i ∈ e.ids, i < s.heap.length) (h2 : ∀ k, k < e.nws.length → e.fresh + k < s.heap.length) : (e.on s).obj = e.objF s.obj ∧ (e.on s).heap.length = s.heap.length := by
 have hput : ∀ (s : St) d v, (s.put d v).obj = s.obj ∧ (s.put d v).heap = s.heap := fun s d v => by cases d <;> exact ⟨rfl, rfl⟩
 unfold Eff.on Eff.objF
 simp only
 rw [(hput _ _ _).1, (hput _ _ _).2]
 have hw : (⟨s.tmps, if e.wr = true then setObjs s.heap e.ids e.os else s.heap⟩ : St).obj = (if e.wr = true then updL s.obj e.ids e.os else s.obj) ∧ (if e.wr = true then setObjs s.heap e.ids e.os else s.heap).length = s.heap.length := by
  cases hwr : e.wr with
  | false => exact ⟨rfl, rfl⟩
  | true => simp only [if_true]; exact ⟨obj_setObjs _ _ _ (h1 hwr), setObjs_length _ _ _⟩
 rw [setObjs_length, hw.2]
 refine ⟨?_, rfl⟩
 rw [obj_setObjs _ _ _ (fun i hi => ?_), hw.1]
 obtain ⟨k, hk, e'⟩ := List.mem_range'.1 hi
 rw [hw.2, e', Nat.one_mul]
 exact h2 k hk
theorem obj_lt {s : St} {i : Nat} (h : (s.obj i).isSome = true) : i < s.heap.length := by
 unfold St.obj at h
 rcases Qn i s.heap.length with h' | h'
 ·exact h'
 ·rw [Qe h'] at h; cases h
theorem enter_in {md : Md} {obj : Nat → Option Obj} {key res fresh : Nat} {vs : List V} {r : V} {is : List Nat} {os ns : List (Option Obj)} (he : enterCall call md obj key vs res fresh = some (r, is, os, ns)) : (∀ i ∈ is, (obj i).isSome = true) ∧ ns.length ≤ res := by
 unfold enterCall at he
 split at he
 ·cases he
 ·split at he
  ·cases he
  ·rename_i L hL
   split at he
   ·cases he
   ·rename_i h hh
    split at he
    ·cases he
    ·simp only at he
     split at he
     ·cases he
     ·split at he
      ·rename_i hle
       simp only [Qa, Qj] at he
       obtain ⟨rfl, rfl, rfl, rfl⟩ := he
       obtain ⟨q1, q2⟩ := renObjs_ok _ _ _ hh
       refine ⟨fun i hi => ?_, by rw [List.length_drop]; omega⟩
       have := placeOf_lt hi
       obtain ⟨o, m1, _⟩ := q2 (placeOf L i) (by simpa using this)
       rw [List.getElem?_map, placeOf_get hi] at m1
       simp only [Option.map_some, Qa] at m1
       rw [m1]; rfl
      ·cases he
theorem callee_nmk {op : Cop} {vs : List V} {key res : Nat} {as : List V} {fz : Md} (h : callee op vs = some (key, as, res, fz)) : op.nmk = res := by
 unfold callee at h
 split at h <;> first | (simp only [Qa, Qj] at h; obtain ⟨_, _, rfl, _⟩ := h; rfl) | cases h
theorem eff_in {get : Nat → V} {obj : Nat → Option Obj} {c : CO} {fresh : Nat} {e : Eff} (he : effF call get obj c fresh = some e) :
  (e.wr = true → ∀ i ∈ e.ids, (obj i).isSome = true) ∧ e.nws.length ≤ c.op.nmk ∧ e.fresh = fresh ∧ e.dst = c.dst := by
 unfold effF at he
 split at he
 ·cases he
 ·simp only [Qa] at he; subst he; simp
 ·split at he
  ·split at he
   ·cases he
   ·rename_i hcl
    split at he
    ·cases he
    ·rename_i hent
     simp only [Qa] at he
     subst he
     obtain ⟨h1, h2⟩ := enter_in hent
     exact ⟨fun _ => h1, by rw [callee_nmk hcl]; exact h2, rfl, rfl⟩
  ·rename_i hcall
   split at he
   ·cases he
   ·rename_i r hr
    simp only [Qa] at he
    subst he
    refine ⟨fun hw => (act_ids hw hr).1, ?_, rfl, rfl⟩
    cases hx : r.nw with
    | none => simp [Res.nws, hx]
    | some x =>
     have hm : c.op.mk = true := by
      cases hm : c.op.mk with
      | true => rfl
      | false => rw [act_nw hm hr] at hx; cases hx
     have : c.op.nmk = 1 := by
      unfold Cop.nmk
      cases hop : c.op <;> rw [hop] at hm hcall <;> first | (simp [Cop.mk] at hm; done) | (simp [Cop.isCall] at hcall; done) | simp [Cop.mk]
     rw [this]; simp [Res.nws, hx]
theorem updL_none {obj : Nat → Option Obj} {j : Nat} (hj : obj j = none) : ∀ (is : List Nat) (os : List (Option Obj)), j ∉ is → updL obj is os j = none
 | [], _, _ => by simpa [updL] using hj
 | _ :: _, [], _ => by simpa [updL] using hj
 | i :: is, o :: os, h => by
  simp only [updL]
  simp only [List.mem_cons, not_or] at h
  exact updL_none (by rw [updO_ne _ _ h.1]; exact hj) is os h.2
theorem countMk_cons (o : CO) (r : List CO) : countMk (o :: r) = o.op.nmk + countMk r := rfl
inductive CompOps (P : Program) (tab : Tab) (nt : Nat) (ops : Array Oper) : List Oper → List CO → Prop where
 | nil : CompOps P tab nt ops [] []
 | cons {o : Oper} {c : CO} {os : List Oper} {cs : List CO} (frz : Nat) (h1 : compOp P tab frz o = some c.op) (h2 : c.dst = o.dst) (h3 : ∀ d, o.dst = some d → d < nt) (h4 : compGuard ops o.guard = some c.guard) (h5 : CompOps P tab nt ops os cs) : CompOps P tab nt ops (o :: os) (c :: cs)
theorem compOps_ok {nt : Nat} {ops : Array Oper} {draw : Bool} : ∀ {os : List Oper} {pre : List Nat} {fz : List Nat} {cs : List CO} {fz' : List Nat}, compOps P tab nt ops draw os pre fz = some (cs, fz') →
  CompOps P tab nt ops os cs ∧ (draw = true → ∀ i c, cs[i]? = some c → c.pre = pre.getD i 0)
 | [], pre, fz, cs, fz', h => by
  simp only [compOps, Qa, Qj] at h
  obtain ⟨rfl, rfl⟩ := h
  exact ⟨.nil, fun _ i c h => by simp at h⟩
 | o :: r, pre, fz, cs, fz', h => by
  simp only [compOps] at h
  split at h
  ·rename_i c g cs' fz'' h1 h2 h3
   split at h
   ·rename_i hd
    simp only [Qa, Qj] at h
    obtain ⟨rfl, rfl⟩ := h
    obtain ⟨k1, k2⟩ := compOps_ok h3
    refine ⟨.cons _ h1 rfl (fun d e => by simpa [dstOk, e] using hd) h2 k1, fun hdr i c' hc => ?_⟩
    cases i with
    | zero =>
     simp only [List.getElem?_cons_zero, Qa] at hc
     subst hc
     simp only [hdr, if_true]
     cases pre <;> rfl
    | succ i =>
     simp only [List.getElem?_cons_succ] at hc
     have := k2 hdr i c' hc
     rw [this]
     cases pre <;> simp
   ·cases h
  ·cases h
theorem CompOps.get {nt : Nat} {ops : Array Oper} : ∀ {os : List Oper} {cs : List CO}, CompOps P tab nt ops os cs → os.length = cs.length ∧ ∀ (i : Nat) (c : CO), cs[i]? = some c → ∃ o frz, os[i]? = some o ∧ compOp P tab frz o = some c.op ∧ c.dst = o.dst ∧ (∀ d, o.dst = some d → d < nt) ∧ compGuard ops o.guard = some c.guard
 | [], [], .nil => ⟨rfl, fun i c h => by simp at h⟩
 | o :: os, c :: cs, .cons frz h1 h2 h3 h4 h5 => by
  obtain ⟨k1, k2⟩ := h5.get
  refine ⟨by simp [k1], fun i c' hc => ?_⟩
  cases i with
  | zero => simp only [List.getElem?_cons_zero, Qa] at hc; subst hc; exact ⟨o, frz, rfl, h1, h2, h3, h4⟩
  | succ i => simpa using k2 i c' (by simpa using hc)
theorem runOps_step {base : Nat} {c : CO} {r : List CO} {j : Nat} {s s' : St} {es : List Eff} (h : runOps call base (c :: r) j s = some (s', es)) :
  ∃ e es', effF call s.get s.obj c (base + j) = some e ∧ runOps call base r (j + c.op.nmk) (e.on s) = some (s', es') ∧ es = e :: es' := by
 simp only [runOps] at h
 split at h
 ·cases h
 ·rename_i e he
  split at h
  ·rename_i s2 es2 h2
   simp only [Qa, Qj] at h
   obtain ⟨rfl, rfl⟩ := h
   rw [opEff_eq] at he
   exact ⟨e, es2, he, h2, rfl⟩
  ·cases h
def freeFrom (s : St) (base j n : Nat) : Prop := s.heap.length = base + n ∧ ∀ q, j ≤ q → s.obj (base + q) = none
theorem free_step {s : St} {base j n : Nat} {c : CO} {e : Eff} (hF : freeFrom s base j n) (hj : j + c.op.nmk ≤ n) (he : effF call s.get s.obj c (base + j) = some e) :
  (e.on s).get = e.getF s.get ∧ (e.on s).obj = e.objF s.obj ∧ freeFrom (e.on s) base (j + c.op.nmk) n := by
 obtain ⟨h1, h2, h3, _⟩ := eff_in he
 obtain ⟨k1, k2⟩ := on_obj e s (fun hw i hi => obj_lt (h1 hw i hi)) (fun k hk => by rw [h3, hF.1]; omega)
 refine ⟨on_get e s, k1, by rw [k2]; exact hF.1, fun q hq => ?_⟩
 rw [k1]
 have h0 := hF.2 q (by omega)
 have hw : (if e.wr = true then updL s.obj e.ids e.os else s.obj) (base + q) = none := by
  split
  ·rename_i hwr
   exact updL_none h0 _ _ (fun hm => by have := h1 hwr _ hm; rw [h0] at this; cases this)
  ·exact h0
 unfold Eff.objF
 refine updL_none hw _ _ (fun hm => ?_)
 obtain ⟨k, hk, e'⟩ := List.mem_range'.1 hm
 rw [h3] at e'
 omega
theorem seq_ops {rd : Option Nat} {dp : Nat} (hB : BodyOk P tab) (hCall : CallOk P tab call) {ops : Array Oper} {nt : Nat} {Q : Exit → Act → World → Prop} {g0 : Gh} {obj0 : Nat → Option Obj} {w0 : World} {base n : Nat} {s' : St} {os : List Oper} {cs : List CO} (hc : CompOps P tab nt ops os cs) :
  ∀ (i : Nat), (∀ q o, os[q]? = some o → ops[i + q]? = some o) → ∀ (j : Nat) (s : St) (es : List Eff) (g : Gh) (a : Act) (w : World), j + countMk cs = n → freeFrom s base j n → runOps call base cs j s = some (s', es) → Go1 tab nt g0 obj0 w0 ds g s.get s.obj a w →
   (∀ g' a' w', Go1 tab nt g0 obj0 w0 ds g' s'.get s'.obj a' w' → Q .normal a' w') → wpOpsIn (fen rd) dp P ops Q (List.range' i os.length) a w := by
 induction hc with
 | nil =>
  intro i hi j s es g a w hn hF hr hR hQ
  simp only [runOps, Qa, Qj] at hr
  obtain ⟨rfl, rfl⟩ := hr
  simp only [List.length_nil, List.range'_zero, wpOpsIn]
  exact hQ g a w hR
 | @cons o c os cs frz h1 h2 h3 h4 h5 ih =>
  intro i hi j s es g a w hn hF hr hR hQ
  obtain ⟨e, es', he, hr', rfl⟩ := runOps_step hr
  rw [countMk_cons] at hn
  obtain ⟨f1, f2, f3⟩ := free_step hF (by omega) he
  rw [List.length_cons, List.range'_succ, wpOpsIn_cons]
  refine op_step hB hCall (hi 0 o rfl) h1 h2 h3 h4 hR ⟨_, hF.2 j (Nat.le_refl _)⟩ (fun k _ => by rw [Nat.add_assoc]; exact hF.2 (j + k) (Nat.le_add_right _ _)) he (fun g' a' w' hR' => ?_)
  rw [← f1, ← f2] at hR'
  refine ih (i + 1) (fun q o' hq => ?_) _ _ es' g' a' w' ?_ f3 hr' hR' hQ
  ·have := hi (q + 1) o' (by simpa using hq)
   rwa [show i + (q + 1) = i + 1 + q by omega] at this
  ·omega
theorem region_seq {rd : Option Nat} {dp : Nat} (hB : BodyOk P tab) (hCall : CallOk P tab call) {id : Nat} {ops : Array Oper} {nt : Nat} {cs : List CO} (hc : CompOps P tab nt ops ops.toList cs) {s s' : St} (hr : runRegion call false cs s = some s') {g : Gh} {a : Act} {w : World} (hR : Rel tab nt g s.get s.obj a w) (hds : a.defers = ds)
  {Q : Exit → Act → World → Prop} (hQ : ∀ g' a' w', Go1 tab nt g s.obj w ds g' s'.get s'.obj a' w' → Q .normal a' w') : (Code.region id ops false).wpIn (fen rd) dp P Q a w := by
 unfold runRegion at hr
 simp only at hr
 split at hr
 ·rename_i s2 es hrun
  simp only [Qm, if_false, Qa] at hr
  subst hr
  refine wpIn_region ?_
  rw [List.range_eq_range', ← Array.length_toList]
  have hobj : (⟨s.tmps, s.heap ++ List.replicate (countMk cs) none⟩ : St).obj = s.obj := by
   funext q
   unfold St.obj
   simp only
   rcases Qn q s.heap.length with h | h
   ·rw [List.getElem?_append_left h]
   ·rw [List.getElem?_append_right h, Qe h, List.getElem?_replicate]
    split <;> rfl
  refine seq_ops (n := countMk cs) hB hCall hc 0 (fun q o hq => by simpa using hq) 0 _ es g a w (Nat.zero_add _) ⟨by simp, fun q _ => ?_⟩ hrun ⟨?_, ?_, hds⟩ hQ
  ·rw [hobj]
   unfold St.obj
   rw [Qe (by omega)]; rfl
  ·rw [hobj]; exact hR
  ·rw [hobj]; exact .refl _ _ _
 ·cases hr
end
end Ab
