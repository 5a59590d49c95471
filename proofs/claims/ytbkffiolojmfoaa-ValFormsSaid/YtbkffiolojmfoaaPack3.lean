/-
  What is handed back, gathered; rows among it that are data from now on.
-/
import Derived.Test.YtbkffiolojmfoaaPack2
import Derived.Orders
import Derived.Scope
set_option linter.unusedSimpArgs false
set_option linter.unusedVariables false
set_option linter.unusedSectionVars false
set_option linter.unnecessarySimpa false
namespace Ab
open Go
open Go.RowKit (Below)
set_option linter.unusedVariables false

section
variable {P : Program} {tab : Tab} {g g0 : Gh} {obj : Nat → Option Obj} {w w0 : World} {hp : List (Option Obj)}

theorem gather_ok (hH : HRel tab g obj w) (hE : Evo g0 (objOf hp) w0 g obj w) {todo L : List Nat} {h : List (Option Obj)} (hL : reach obj far (List.range hp.length ++ todo) [] = some L) (hren : renObjs (placeOf L) noShift 0 (L.map obj) = some h) :
    HRel tab ⟨fun i => g.at_ (L.getD i 0), g.im⟩ (objOf h) w ∧ Evo g0 (objOf hp) w0 ⟨fun i => g.at_ (L.getD i 0), g.im⟩ (objOf h) w ∧
      (∀ i ∈ todo, Corr g ⟨fun i => g.at_ (L.getD i 0), g.im⟩ obj (objOf h) (placeOf L) noShift i) ∧ (∀ k b q, owns ⟨fun i => g.at_ (L.getD i 0), g.im⟩ (objOf h) k b q → ∃ i ∈ L, owns g obj i b q) := by
  obtain ⟨_, hn, hin, hcl⟩ := reach_ok far _ [] L hL (by simp) (by simp)
  obtain ⟨hH1, hcor, hlen, hob, hown⟩ := hrel_sub1 hH hn hcl hren
  obtain ⟨more, hmore⟩ := reach_range hp.length far 0 todo L (by rw [← List.range_eq_range']; exact hL)
  rw [Nat.zero_add] at hmore
  have hat : ∀ i, i < hp.length → L[i]? = some i := fun i hi => by
    rw [hmore, List.getElem?_append_left (by simpa using hi), List.getElem?_range hi]
  refine ⟨hH1, ⟨hE.os, hE.tape, hE.output, hE.size, hE.blk, hE.im, hE.imNew, fun b o ⟨k, hk⟩ => ?_, fun i => ?_⟩, fun i hi => hcor i (hin i (List.mem_append.2 (.inr hi))), fun k b q hk => ?_⟩
  · obtain ⟨i, _, hi⟩ := hown k b o hk
    exact hE.ownNew b o ⟨i, hi⟩
  · have hk := hE.kevo i
    cases ho : objOf hp i with
    | none => trivial
    | some o =>
      rw [ho] at hk
      have hi : i < hp.length := by
        rcases Nat.lt_or_ge i hp.length with h | h
        · exact h
        · unfold objOf at ho; rw [List.getElem?_eq_none h] at ho; cases ho
      obtain ⟨o', m1, m2⟩ := hob i i (hat i hi)
      have hat' : (⟨fun i => g.at_ (L.getD i 0), g.im⟩ : Gh).at_ i = g.at_ i := by
        show g.at_ (L.getD i 0) = _
        rw [List.getD_eq_getElem?_getD, hat i hi]; rfl
      rw [m1] at hk
      rw [m2, hat']
      cases o with
      | box cs =>
        refine ⟨?_, hk.2⟩
        rcases hk.1 with ⟨c, e⟩ | ⟨c, e⟩ <;> simp only [Option.some.injEq] at e <;> subst e
        · exact .inl ⟨_, rfl⟩
        · exact .inr ⟨_, rfl⟩
      | cst ds =>
        refine ⟨?_, hk.2⟩
        rcases hk.1 with ⟨c, e⟩ | ⟨c, e⟩ <;> simp only [Option.some.injEq] at e <;> subst e
        · exact .inl ⟨_, rfl⟩
        · exact .inr ⟨_, rfl⟩
      | tok v sz =>
        obtain ⟨v', sz', e⟩ := hk
        simp only [Option.some.injEq] at e
        subst e
        exact ⟨_, _, rfl⟩
      | arr v sz xs =>
        obtain ⟨v', xs', e, e1, e2⟩ := hk
        simp only [Option.some.injEq] at e
        subst e
        exact ⟨v', _, rfl, e1, fun q => ⟨by rw [renRows_length]; exact (e2 q).1, (e2 q).2⟩⟩
      | map kvs =>
        obtain ⟨⟨kvs', e⟩, e2⟩ := hk
        simp only [Option.some.injEq] at e
        subst e
        exact ⟨⟨_, rfl⟩, e2⟩
  · obtain ⟨i, h1, h2⟩ := hown k b q hk
    exact ⟨i, List.mem_of_getElem? h1, h2⟩

/-- more cells that nothing turns. -/
theorem more_im (hH : HRel tab g obj w) {im' : Nat → Nat → Prop} (hi : ∀ b o, g.im b o → im' b o) (hno : ∀ k b o, owns g obj k b o → ¬ im' b o) (hold : ∀ b o, im' b o → b < w.heap.size) : HRel tab ⟨g.at_, im'⟩ obj w where
  ob i o ho := by
    have h0 := hH.ob i o ho
    have kind : OEvo g obj ⟨g.at_, im'⟩ obj := OEvo.refl g obj
    cases o with
    | box cs => obtain ⟨k1, us, k2, k3⟩ := h0; exact ⟨k1, us, CList.mono kind hi (fun _ _ _ => rfl) cs us k2, k3⟩
    | cst ds => exact DCells.mono hi (fun _ _ _ => rfl) ds _ _ h0
    | tok v sz => exact h0
    | arr v sz xs => obtain ⟨k1, k2, k3, k4⟩ := h0; exact ⟨k1, k2, k3, fun j r q x a b => let ⟨u, m1, m2, m3⟩ := k4 j r q x a b; ⟨u, m1, VRel.mono kind hi (fun _ _ _ => rfl) x u m2, m3⟩⟩
    | map kvs => obtain ⟨es, cl, k1, k2⟩ := h0; exact ⟨es, cl, k1, EList.mono kind hi (fun _ _ _ => rfl) kvs _ k2⟩
  imm i b o h := hno i b o h
  one i j b o h h' := hH.one i j b o h h'
  old i b o h := hH.old i b o h
  frz i b o h hm := hH.frz i b o h hm
  imOld := hold

section
variable {im' : Nat → Nat → Prop} (hH : HRel tab g obj w) (hi : ∀ b o, g.im b o → im' b o) {m : Nat}
include hH hi

theorem frz1_rel {x y : V} (h : frz1 m obj x = some y) (him : ∀ id ∈ x.arrIds m, ∀ b q, owns g obj id b q → im' b q) {v : Value} (hx : VRel tab g obj w x v) : VRel tab ⟨g.at_, im'⟩ obj w y v := by
  have mono : ∀ x, VRel tab g obj w x v → VRel tab ⟨g.at_, im'⟩ obj w x v := fun x hx => VRel.mono (show OEvo g obj ⟨g.at_, im'⟩ obj from OEvo.refl g obj) hi (fun _ _ _ => rfl) x v hx
  cases x with
  | arr id ver off len =>
    simp only [frz1] at h
    split at h
    · rename_i hm
      split at h
      · rename_i ver' sz xs ho
        split at h
        · rename_i hcond
          obtain ⟨rfl, hle⟩ := hcond
          split at h
          · rename_i ds hds
            simp only [Option.some.injEq] at h
            subst h
            simp only [VRel]
            exact arr_data hH hi ho hds hle (him id (by simp [V.arrIds, hm])) hx
          · cases h
        · cases h
      · cases h
    · simp only [Option.some.injEq] at h
      subst h
      exact mono _ hx
  | _ =>
    simp only [frz1, Option.some.injEq] at h
    subst h
    exact mono _ hx

theorem frzAll_rel : ∀ {xs ys : List V}, frzAll m obj xs = some ys → (∀ id ∈ arrIdsAll m xs, ∀ b q, owns g obj id b q → im' b q) → ∀ {vs : List Value}, (VList tab g obj w xs vs → VList tab ⟨g.at_, im'⟩ obj w ys vs) ∧ (CList tab g obj w xs vs → CList tab ⟨g.at_, im'⟩ obj w ys vs)
  | [], ys, h, him, vs => by
    simp only [frzAll, Option.some.injEq] at h
    subst h
    cases vs with
    | nil => simp only [VList, CList]; exact ⟨id, id⟩
    | cons => simp only [VList, CList]; exact ⟨id, id⟩
  | x :: xs, ys, h, him, vs => by
    simp only [frzAll] at h
    split at h
    · rename_i y ys' h1 h2
      simp only [Option.some.injEq] at h
      subst h
      simp only [arrIdsAll, List.mem_append] at him
      cases vs with
      | nil => simp only [VList, CList]; exact ⟨id, id⟩
      | cons v vs =>
        simp only [VList, CList]
        obtain ⟨k1, k2⟩ := frzAll_rel h2 (fun id hid => him id (.inr hid)) (vs := vs)
        exact ⟨fun h => ⟨frz1_rel hH hi h1 (fun id hid => him id (.inl hid)) h.1, k1 h.2⟩, fun h => ⟨frz1_rel hH hi h1 (fun id hid => him id (.inl hid)) h.1, h.2.1, k2 h.2.2⟩⟩
    · cases h

theorem frzA_rel {x y : V} (h : frzA m obj x = some y) (him : ∀ id ∈ ansIds m x, ∀ b q, owns g obj id b q → im' b q) {v : Value} (hx : VRel tab g obj w x v) : VRel tab ⟨g.at_, im'⟩ obj w y v := by
  cases x with
  | agg cs =>
    simp only [frzA] at h
    split at h
    · rename_i cs' hcs
      simp only [Option.some.injEq] at h
      subst h
      simp only [VRel] at hx ⊢
      obtain ⟨vs, k1, k2⟩ := hx
      exact ⟨vs, k1, (frzAll_rel hH hi hcs him).2 k2⟩
    · cases h
  | tup cs =>
    simp only [frzA] at h
    split at h
    · rename_i cs' hcs
      simp only [Option.some.injEq] at h
      subst h
      simp only [VRel] at hx ⊢
      obtain ⟨vs, k1, k2⟩ := hx
      exact ⟨vs, k1, (frzAll_rel hH hi hcs him).1 k2⟩
    · cases h
  | _ => exact frz1_rel hH hi (m := m) (by simpa only [frzA] using h) (by simpa only [ansIds] using him) hx
end

theorem settle_sound (hH : HRel tab g obj w) {h : List (Option Obj)} (hob : obj = objOf h) (hE : Evo g0 (objOf hp) w0 g obj w) {r r2 : V} {h2 : List (Option Obj)} {v : Value} (hr : VRel tab g obj w r v) (hs : settle hp.length r h = some (r2, h2)) :
    ∃ g2, HRel tab g2 (objOf h2) w ∧ Evo g0 (objOf hp) w0 g2 (objOf h2) w ∧ VRel tab g2 (objOf h2) w r2 v := by
  unfold settle at hs
  split at hs
  · simp only [Option.some.injEq, Prod.mk.injEq] at hs
    obtain ⟨rfl, rfl⟩ := hs
    subst hob
    exact ⟨g, hH, hE, hr⟩
  · rename_i i is hids
    have he : (fun i => (h[i]?).join) = obj := hob.symm
    rw [he] at hs
    split at hs
    · cases hs
    · rename_i r' hr'
      split at hs
      · cases hs
      · rename_i L hL
        split at hs
        · cases hs
        · rename_i hno
          split at hs
          · cases hs
          · rename_i h' hren
            simp only [Option.some.injEq, Prod.mk.injEq] at hs
            obtain ⟨rfl, rfl⟩ := hs
            obtain ⟨k1, k2, k3, k4⟩ := gather_ok hH hE hL hren
            let im' : Nat → Nat → Prop := fun b q => g.im b q ∨ ∃ id ∈ ansIds hp.length r, owns g obj id b q
            have hi : ∀ b q, g.im b q → im' b q := fun _ _ h => .inl h
            have hv := frzA_rel hH hi hr' (fun id hid b q ho => .inr ⟨id, hid, ho⟩) hr
            have hout : ∀ id ∈ ansIds hp.length r, id ∉ L := fun id hid hmem => by
              rw [hids] at hid
              apply hno
              exact List.any_eq_true.2 ⟨id, hid, by simpa using hmem⟩
            refine ⟨⟨fun i => g.at_ (L.getD i 0), im'⟩, more_im k1 hi (fun k b q hk => ?_) (fun b q hb => ?_), ⟨k2.os, k2.tape, k2.output, k2.size, k2.blk, fun b q hb => hi b q (k2.im b q hb), fun b q hb => ?_, k2.ownNew, k2.kevo⟩, ?_⟩
            · rintro (hb | ⟨id, hid, ho⟩)
              · exact k1.imm k b q hk hb
              · obtain ⟨j, hj, hjo⟩ := k4 k b q hk
                have := hH.one j id b q hjo ho
                subst this
                exact hout j hid hj
            · rcases hb with hb | ⟨id, hid, ho⟩
              · exact hH.imOld b q hb
              · exact hH.old id b q ho
            · rcases hb with hb | ⟨id, hid, ho⟩
              · exact k2.imNew b q hb
              · rcases hE.ownNew b q ⟨id, ho⟩ with h | h
                · exact .inr (.inl h)
                · exact .inr (.inr h)
            · refine VRel.ren (g := ⟨g.at_, im'⟩) (obj := obj) (g2 := ⟨fun i => g.at_ (L.getD i 0), im'⟩) rfl _ _ (fun i hi => ?_) hv
              exact k3 i hi

theorem frz_ok {call : CallF} {fid key : Nat} (hF : FnOk P tab fid (call key)) (fz : Bool) : FnOk P tab fid (frzCall fz call key) := by
  cases fz with
  | false => exact hF
  | true =>
    intro args h r h' hc g w vs hH hv
    simp only [frzCall, if_true] at hc
    split at hc
    · rename_i r1 h1 hc1
      have := hF args h r1 h1 hc1 g w vs hH hv
      intro cs
      obtain ⟨e, w', fr, ⟨v, g', he, k1, k2, k3⟩, m2, m3, m4⟩ := this cs
      obtain ⟨g2, q1, q2, q3⟩ := settle_sound k1 rfl k2 k3 hc
      exact ⟨e, w', fr, ⟨v, g2, he, q1, q2, q3⟩, m2, m3, m4⟩
    · cases hc

end
end Ab

/-
  A region's operations, one behind the other, in whatever order there may be.
-/
namespace Ab
open Go
open Go.RowKit (Below)
set_option linter.unusedVariables false

def putF (dst : Option Nat) (x : V) (get : Nat → V) : Nat → V := match dst with
  | some d => fun t => if d = t then x else get t
  | none => get

def Eff.getF (e : Eff) (get : Nat → V) : Nat → V := putF e.dst e.v get

def Eff.objF (e : Eff) (obj : Nat → Option Obj) : Nat → Option Obj :=
  updL (if e.wr then updL obj e.ids e.os else obj) (List.range' e.fresh e.nws.length) e.nws

def wantedF (get : Nat → V) : Option (Nat × Bool) → Option Bool
  | none => some true
  | some (t, want) => match get t with
    | .d (.b x) => some (x == want)
    | .tup [] => some false
    | _ => none

def effF (call : CallF) (get : Nat → V) (obj : Nat → Option Obj) (c : CO) (fresh : Nat) : Option Eff :=
  match wantedF get c.guard with
  | none => none
  | some false => some ⟨c.dst, .undef, [], false, [], fresh, []⟩
  | some true =>
    if c.op.isCall then match callee c.op (c.op.args.map (evA get)) with
      | none => none
      | some (key, vs, res, fz) => match enterCall (frzCall fz call) obj key vs res fresh with
        | none => none
        | some (r, is, os, ns) => some ⟨c.dst, r, is, true, os, fresh, ns⟩
    else match act c.op (c.op.args.map (evA get)) ((c.op.ids (c.op.args.map (evA get))).map obj) fresh with
      | none => none
      | some r => some ⟨c.dst, r.v, c.op.ids (c.op.args.map (evA get)), c.op.wr, r.os, fresh, r.nws⟩

theorem ev_eq (s : St) : s.ev = evA s.get := by
  funext a; cases a <;> rfl

theorem opEff_eq {call : CallF} (s : St) (o : CO) (fresh : Nat) : opEff call s o fresh = effF call s.get s.obj o fresh := by
  unfold opEff effF
  rw [ev_eq]
  have : wanted s o.guard = wantedF s.get o.guard := by cases o.guard <;> rfl
  rw [this]
  rfl

theorem freezeCaps_some : ∀ {vs : List V} {obj : Nat → Option Obj} {c : List D} {os' : List (Option Obj)}, freezeCaps vs ((ptrIds vs).map obj) = some (c, os') → (∀ id ∈ ptrIds vs, (obj id).isSome = true) ∧ os'.length = (ptrIds vs).length ∧ ∀ o ∈ os', o.isSome = true
  | [], obj, c, os', h => by
    simp only [ptrIds, List.map_nil, freezeCaps, Option.some.injEq, Prod.mk.injEq] at h
    obtain ⟨rfl, rfl⟩ := h
    simp [ptrIds]
  | v :: vs, obj, c, os', h => by
    by_cases hp : ∃ id off, v = .ptr id off
    · obtain ⟨id, off, rfl⟩ := hp
      simp only [ptrIds, List.map_cons] at h
      cases ho : obj id with
      | none => simp [freezeCaps, ho] at h
      | some ob =>
        cases ob with
        | box cs =>
          simp only [freezeCaps, ho] at h
          split at h
          · rename_i ds c1 os1 hds hrest
            simp only [Option.some.injEq, Prod.mk.injEq] at h
            obtain ⟨rfl, rfl⟩ := h
            obtain ⟨h1, h2, h3⟩ := freezeCaps_some hrest
            refine ⟨fun j hj => ?_, by simp [ptrIds, h2], fun o ho' => ?_⟩
            · rcases List.mem_cons.1 hj with rfl | hj
              · rw [ho]; rfl
              · exact h1 j hj
            · rcases List.mem_cons.1 ho' with rfl | ho'
              · rfl
              · exact h3 o ho'
          · cases h
        | cst ds =>
          simp only [freezeCaps, ho] at h
          split at h
          · rename_i c1 os1 hrest
            simp only [Option.some.injEq, Prod.mk.injEq] at h
            obtain ⟨rfl, rfl⟩ := h
            obtain ⟨h1, h2, h3⟩ := freezeCaps_some hrest
            refine ⟨fun j hj => ?_, by simp [ptrIds, h2], fun o ho' => ?_⟩
            · rcases List.mem_cons.1 hj with rfl | hj
              · rw [ho]; rfl
              · exact h1 j hj
            · rcases List.mem_cons.1 ho' with rfl | ho'
              · rfl
              · exact h3 o ho'
          · cases h
        | _ => simp [freezeCaps, ho] at h
    · have hp : ∀ id off, v ≠ .ptr id off := fun id off e => hp ⟨id, off, e⟩
      rw [ptrIds_other hp] at h ⊢
      rw [freezeCaps_other hp] at h
      split at h
      · rename_i d c1 os1 hd hrest
        simp only [Option.some.injEq, Prod.mk.injEq] at h
        obtain ⟨rfl, rfl⟩ := h
        exact freezeCaps_some hrest
      · cases h

section

/-- what an operation turns is there. -/
theorem act_ids {cop : Cop} (hw : cop.wr = true) {vs : List V} {obj : Nat → Option Obj} {fresh : Nat} {r : Res} (h : act cop vs ((cop.ids vs).map obj) fresh = some r) :
    (∀ id ∈ cop.ids vs, (obj id).isSome = true) ∧ r.os.length = (cop.ids vs).length ∧ ∀ o ∈ r.os, o.isSome = true := by
  have one : ∀ (id : Nat) (x y : Obj), obj id = some x → (∀ j ∈ [id], (obj j).isSome = true) ∧ [some y].length = [id].length ∧ ∀ o ∈ [some y], o.isSome = true := fun id x y hx => by
    refine ⟨fun j hj => ?_, rfl, fun o ho => ?_⟩
    · simp only [List.mem_singleton] at hj; subst hj; rw [hx]; rfl
    · simp only [List.mem_singleton] at ho; subst ho; rfl
  cases cop <;> simp only [Cop.wr] at hw <;> try (cases hw; done)
  case st n a v =>
    simp only [act] at h
    split at h
    · rename_i os' hos
      simp only [Option.some.injEq] at h
      subst h
      cases vs with
      | nil => simp [actSt] at hos
      | cons x vs =>
        cases vs with
        | nil => cases x <;> simp [actSt] at hos
        | cons y vs =>
          cases vs with
          | cons => cases x <;> simp [actSt] at hos
          | nil =>
            cases x with
            | ptr id off =>
              simp only [Cop.ids, List.map_cons, List.map_nil] at hos ⊢
              cases ho : obj id with
              | none => simp [actSt, ho] at hos
              | some ob =>
                cases ob <;> simp only [actSt, ho] at hos <;> try (cases hos; done)
                split at hos
                · split at hos
                  · split at hos
                    · simp only [Option.some.injEq] at hos; subst hos; exact one id _ _ ho
                    · cases hos
                  · cases hos
                · cases hos
            | pm id ver idx off =>
              simp only [Cop.ids, List.map_cons, List.map_nil] at hos ⊢
              cases ho : obj id with
              | none => simp [actSt, ho] at hos
              | some ob =>
                cases ob <;> simp only [actSt, ho] at hos <;> try (cases hos; done)
                split at hos
                · split at hos
                  · split at hos
                    · split at hos
                      · simp only [Option.some.injEq] at hos; subst hos; exact one id _ _ ho
                      · cases hos
                    · cases hos
                  · cases hos
                · cases hos
            | _ => simp [actSt] at hos
    · cases h
  case frz x =>
    simp only [act] at h
    cases vs with
    | nil => simp [actFrz] at h
    | cons x vs =>
      cases vs with
      | cons => cases x <;> simp [actFrz] at h
      | nil =>
        cases x with
        | arr id ver off len =>
          simp only [Cop.ids, List.map_cons, List.map_nil] at h ⊢
          cases ho : obj id with
          | none => simp [actFrz, ho] at h
          | some ob =>
            cases ob <;> simp only [actFrz, ho] at h <;> try (cases h; done)
            split at h
            · split at h
              · simp only [Option.some.injEq] at h; subst h; exact one id _ _ ho
              · cases h
            · cases h
        | _ =>
          simp only [Cop.ids, List.map_nil, actFrz, Option.some.injEq] at h
          subst h
          simp [Cop.ids]
  case mkf key f c frz =>
    cases frz with
    | false => simp at hw
    | true =>
      simp only [act, if_true] at h
      split at h
      · rename_i c' os' hn hfz
        simp only [Option.some.injEq] at h
        subst h
        exact freezeCaps_some hfz
      · cases h
  case app sz bytes a b =>
    simp only [act] at h
    cases vs with
    | nil => simp [actApp] at h
    | cons x vs =>
      cases vs with
      | nil => cases x <;> simp [actApp] at h
      | cons y vs =>
        cases vs with
        | cons => cases x <;> simp [actApp] at h
        | nil =>
          cases x with
          | nil n =>
            simp only [Cop.ids, List.map_nil, actApp] at h ⊢
            split at h
            · split at h
              · simp only [Option.some.injEq] at h; subst h; simp
              · cases h
            · cases h
          | own id ver sz' xs =>
            simp only [Cop.ids, List.map_cons, List.map_nil] at h ⊢
            cases ho : obj id with
            | none => simp [actApp, ho] at h
            | some ob =>
              cases ob <;> simp only [actApp, ho] at h <;> try (cases h; done)
              split at h
              · split at h
                · split at h
                  · simp only [Option.some.injEq] at h; subst h; exact one id _ _ ho
                  · cases h
                · cases h
              · cases h
          | _ => simp [actApp] at h
  case mu ag ks m k v =>
    simp only [act] at h
    split at h
    · rename_i os' hos
      simp only [Option.some.injEq] at h
      subst h
      cases vs with
      | nil => simp [actMu] at hos
      | cons x vs =>
        match vs with
        | [] => cases x <;> simp [actMu] at hos
        | [_] => cases x <;> simp [actMu] at hos
        | _ :: _ :: _ :: _ => cases x <;> simp [actMu] at hos
        | [y, z] =>
          cases x with
          | map id =>
            simp only [Cop.ids, List.map_cons, List.map_nil] at hos ⊢
            cases ho : obj id with
            | none => simp [actMu, ho] at hos
            | some ob =>
              cases ob <;> simp only [actMu, ho] at hos <;> try (cases hos; done)
              split at hos
              · split at hos
                · simp only [Option.some.injEq] at hos; subst hos; exact one id _ _ ho
                · cases hos
              · cases hos
          | _ => simp [actMu] at hos
    · cases h
  case del ag ks m k =>
    simp only [act] at h
    split at h
    · rename_i os' hos
      simp only [Option.some.injEq] at h
      subst h
      cases vs with
      | nil => simp [actDel] at hos
      | cons x vs =>
        match vs with
        | [] => cases x <;> simp [actDel] at hos
        | _ :: _ :: _ => cases x <;> simp [actDel] at hos
        | [y] =>
          cases x with
          | map id =>
            simp only [Cop.ids, List.map_cons, List.map_nil] at hos ⊢
            cases ho : obj id with
            | none => simp [actDel, ho] at hos
            | some ob =>
              cases ob <;> simp only [actDel, ho] at hos <;> try (cases hos; done)
              split at hos
              · split at hos
                · simp only [Option.some.injEq] at hos; subst hos; exact one id _ _ ho
                · cases hos
              · cases hos
          | _ => simp [actDel] at hos
    · cases h

/-- what makes no object asks for no number. -/
theorem act_fresh {cop : Cop} (hm : cop.mk = false) {vs : List V} {os : List (Option Obj)} (f f' : Nat) : act cop vs os f = act cop vs os f' := by
  cases cop <;> first | rfl | (simp [Cop.mk] at hm; done)

theorem act_nw {cop : Cop} (hm : cop.mk = false) {vs : List V} {os : List (Option Obj)} {f : Nat} {r : Res} (h : act cop vs os f = some r) : r.nw = none := by
  cases cop <;> simp only [Cop.mk] at hm <;> try (cases hm; done)
  case frz x =>
    simp only [act] at h
    unfold actFrz at h
    (repeat' split at h) <;> first | (simp only [Option.some.injEq] at h; subst h; rfl) | (cases h; done)
  all_goals (simp only [act, optV, optD] at h)
  all_goals (repeat' split at h)
  all_goals (first | (simp only [Option.some.injEq] at h; subst h; rfl) | (cases h; done))

/-- where no object is made, the number is no matter. -/
theorem act_any {cop : Cop} {vs : List V} {os : List (Option Obj)} {f : Nat} {r : Res} (h : act cop vs os f = some r) (hn : r.nw = none) (f' : Nat) : act cop vs os f' = some r := by
  cases hm : cop.mk with
  | false => rw [act_fresh hm f' f]; exact h
  | true =>
    cases cop <;> simp only [Cop.mk] at hm <;> try (cases hm; done)
    case app sz bytes a b =>
      simp only [act] at h ⊢
      unfold actApp at h ⊢
      split at h
      · split at h
        · split at h
          · simp only [Option.some.injEq] at h; subst h; cases hn
          · cases h
        · cases h
      · exact h
      · cases h
    all_goals (simp only [act] at h)
    all_goals (repeat' split at h)
    all_goals (first | (simp only [Option.some.injEq] at h; subst h; cases hn; done) | (cases h; done))

end
end Ab

/-
  A region's operations: one of them; in the order of the text.
-/
namespace Ab
open Go
open Go.RowKit (Below)
set_option linter.unusedVariables false

section
variable {P : Program} {tab : Tab} {call : CallF}

theorem updL_nil (obj : Nat → Option Obj) : updL obj [] [] = obj := rfl
theorem updL_one (obj : Nat → Option Obj) (i : Nat) (o : Option Obj) : updL obj [i] [o] = updO obj i o := rfl

/-- how a region's beginning and a later place of it stand. -/
structure Go1 (tab : Tab) (nt : Nat) (g0 : Gh) (obj0 : Nat → Option Obj) (w0 : World) (g : Gh) (get : Nat → V) (obj : Nat → Option Obj) (a : Act) (w : World) : Prop where
  rel : Rel tab nt g get obj a w
  evo : Evo g0 obj0 w0 g obj w

theorem Rel.put {nt : Nat} {g : Gh} {get : Nat → V} {obj : Nat → Option Obj} {a : Act} {w : World} (hR : Rel tab nt g get obj a w) {g' : Gh} {obj' : Nat → Option Obj} {w' : World} (hP : Post tab g obj w g' obj' w') {dst : Option Nat} (hd : ∀ d, dst = some d → d < nt) {x : V} {v : Value} (hv : VRel tab g' obj' w' x v)
    {get' : Nat → V} (hg : get' = putF dst x get) : Rel tab nt g' get' obj' (a.put dst v) w' := by
  subst hg
  cases dst with
  | none => exact ⟨fun t => hP.vals _ _ (hR.tmp t), hR.size, hR.defers, hP.heap⟩
  | some d =>
    have hlt : d < a.tmps.size := Nat.lt_of_lt_of_le (hd d rfl) hR.size
    refine ⟨fun t => ?_, by simp [Act.put]; exact hR.size, hR.defers, hP.heap⟩
    simp only [Act.put, putF]
    by_cases e : d = t
    · subst e
      simp only [if_true]
      rw [Array.getD_eq_getD_getElem?, Array.getElem?_setIfInBounds_self_of_lt hlt]
      exact hv
    · simp only [e, if_false]
      rw [Array.getD_eq_getD_getElem?, Array.getElem?_setIfInBounds_ne e, ← Array.getD_eq_getD_getElem?]
      exact hP.vals _ _ (hR.tmp t)

theorem wanted_rel {ops : Array Oper} {o : Oper} {g : Option (Nat × Bool)} (hg : compGuard ops o.guard = some g) {nt : Nat} {gh : Gh} {get : Nat → V} {obj : Nat → Option Obj} {a : Act} {w : World} (hR : Rel tab nt gh get obj a w) {b : Bool} (hb : wantedF get g = some b) : Region.wanted o (yielded ops a.tmps) = b := by
  unfold Region.wanted
  cases hog : o.guard with
  | none =>
    simp only [hog, compGuard, Option.some.injEq] at hg
    subst hg
    simpa [wantedF] using hb
  | some p =>
    obtain ⟨j, want⟩ := p
    simp only [hog, compGuard] at hg
    split at hg
    · rename_i t ht
      simp only [Option.some.injEq] at hg
      subst hg
      have hx := hR.tmp t
      simp only [wantedF] at hb
      have hy : yielded ops a.tmps j = match a.tmps.getD t undef with | .bool b => some b | _ => none := by
        unfold yielded
        rw [ht, Option.bind_some]
        rw [Array.getD_eq_getD_getElem?]
        cases hq : a.tmps[t]? with
        | none => simp [undef]
        | some v => cases v <;> simp
      show (yielded ops a.tmps j == some want) = b
      rw [hy]
      generalize get t = gv at hx hb
      cases gv with
      | d x =>
        cases x with
        | b y =>
          simp only [VRel, DRel] at hx
          simp only [Option.some.injEq] at hb
          rw [hx, ← hb]
          cases y <;> cases want <;> rfl
        | _ => simp at hb
      | tup ws =>
        cases ws with
        | nil =>
          simp only [VRel] at hx
          obtain ⟨vs, hx, _⟩ := hx
          simp only [Option.some.injEq] at hb
          rw [hx, ← hb]
          rfl
        | cons => simp at hb
      | _ => simp at hb
    · cases hg

/-- one operation. -/
theorem op_step (hB : BodyOk P tab) (hCall : CallOk P tab call) {ops : Array Oper} {i : Nat} {o : Oper} (hi : ops[i]? = some o) {frz : Bool} {c : CO} (hcop : compOp P tab frz o = some c.op) (hdst : c.dst = o.dst) {nt : Nat} (hd : ∀ d, o.dst = some d → d < nt)
    (hg : compGuard ops o.guard = some c.guard) {g0 : Gh} {obj0 : Nat → Option Obj} {w0 : World} {g : Gh} {get : Nat → V} {obj : Nat → Option Obj} {a : Act} {w : World} (hR : Go1 tab nt g0 obj0 w0 g get obj a w) {fresh : Nat} (hex : ∃ f, obj f = none) {e : Eff} (hf : ∀ k, k < e.nws.length → obj (fresh + k) = none) (he : effF call get obj c fresh = some e)
    {K : Act → World → Prop} {Q : Exit → Act → World → Prop} (hK : ∀ g' a' w', Go1 tab nt g0 obj0 w0 g' (e.getF get) (e.objF obj) a' w' → K a' w') : wpOp P ops Q i K a w := by
  unfold wpOp
  simp only [hi]
  unfold effF at he
  split at he
  · cases he
  · rename_i hw
    rw [wanted_rel hg hR.rel hw]
    simp only [Bool.false_eq_true, if_false]
    simp only [Option.some.injEq] at he
    subst he
    refine hK g _ w ⟨hR.rel.put (.refl hR.rel.heap) hd (undef_rel) ?_, hR.evo⟩
    simp only [Eff.getF, hdst]
  · rename_i hw
    rw [wanted_rel hg hR.rel hw]
    simp only [if_true]
    split at he
    · rename_i hcall
      split at he
      · cases he
      · rename_i key vs res fz hcl
        split at he
        · cases he
        · rename_i r is os ns hent
          simp only [Option.some.injEq] at he
          subst he
          refine .inl ?_
          obtain ⟨f, us, q1, q2, q3⟩ := enter_sound hB hcop hcall hR.rel hcl
          have := enter_post (frz_ok (hCall f key q1) fz) hR.rel.heap q2 hent hf
          unfold Oper.wp
          rw [q3, Oper.upon_enter]
          intro cs
          obtain ⟨e, w', fr, ⟨v, g', he, k1, k2⟩, m2, m3, m4⟩ := this cs
          refine ⟨e, w', fr, ?_, m2, m3, m4⟩
          subst he
          exact hK g' _ w' ⟨hR.rel.put k1 hd k2 (by simp only [Eff.getF, hdst]), hR.evo.trans k1.evo⟩
    · rename_i hcall
      have hcall : c.op.isCall = false := by simpa using hcall
      split at he
      · cases he
      · rename_i r hr
        simp only [Option.some.injEq] at he
        subst he
        refine .inl ?_
        obtain ⟨f', hf', hr'⟩ : ∃ f', obj f' = none ∧ (act c.op (c.op.args.map (evA get)) ((c.op.ids (c.op.args.map (evA get))).map obj) f' = some r ∧ (r.nw ≠ none → f' = fresh)) := by
          cases hm : r.nw with
          | some x =>
            exact ⟨fresh, by simpa using hf 0 (by simp [Res.nws, hm]), hr, fun _ => rfl⟩
          | none =>
            obtain ⟨f, hf⟩ := hex
            exact ⟨f, hf, act_any hr hm f, fun h => absurd rfl h⟩
        refine act_sound hcop hcall nt g get obj a w hR.rel f' r hf' hr'.1 K Q (fun g' v w' k1 k2 => ?_)
        have hres : (⟨c.dst, r.v, c.op.ids (c.op.args.map (evA get)), c.op.wr, r.os, fresh, r.nws⟩ : Eff).objF obj = resO obj c.op.wr (c.op.ids (c.op.args.map (evA get))) r f' := by
          unfold Eff.objF resO
          unfold Res.nws
          cases hnw : r.nw with
          | none => rfl
          | some x =>
            rw [hr'.2 (by simp [hnw])]
            rfl
        refine hK g' _ w' ⟨?_, hR.evo.trans ?_⟩
        · rw [hres]
          refine hR.rel.put k1 hd k2 ?_
          simp only [Eff.getF, hdst]
        · rw [hres]; exact k1.evo

/-! ### states -/

theorem look_cons (i : Nat) (v : V) (l : List (Nat × V)) (j : Nat) : look ((i, v) :: l) j = if i = j then v else look l j := rfl

theorem on_get (e : Eff) (s : St) : (e.on s).get = e.getF s.get := by
  funext t
  unfold Eff.on Eff.getF
  cases e.dst with
  | none => rfl
  | some d => simp only [St.put, St.set, St.get, look_cons, putF]

theorem obj_set {h : List (Option Obj)} {tm tm' : List (Nat × V)} {i : Nat} {o : Option Obj} (hi : i < h.length) : (⟨tm, h.set i o⟩ : St).obj = updO (⟨tm', h⟩ : St).obj i o := by
  funext j
  unfold St.obj updO
  simp only
  by_cases e : j = i
  · subst e; simp [hi]
  · rw [List.getElem?_set_ne (by omega)]; simp [e]

theorem setObjs_length : ∀ (is : List Nat) (os h : List (Option Obj)), (setObjs h is os).length = h.length
  | [], _, _ => by simp [setObjs]
  | _ :: _, [], _ => by simp [setObjs]
  | i :: is, o :: os, h => by simp only [setObjs]; rw [setObjs_length]; simp

theorem obj_setObjs {tm : List (Nat × V)} : ∀ (is : List Nat) (os h : List (Option Obj)), (∀ i ∈ is, i < h.length) → (⟨tm, setObjs h is os⟩ : St).obj = updL (⟨tm, h⟩ : St).obj is os
  | [], _, _, _ => by simp [setObjs, updL]
  | _ :: _, [], _, _ => by simp [setObjs, updL]
  | i :: is, o :: os, h, hi => by
    simp only [setObjs, updL]
    rw [obj_setObjs is os (h.set i o) (fun j hj => by simp; exact hi j (by simp [hj]))]
    rw [obj_set (tm' := tm) (hi i (by simp))]

theorem on_obj (e : Eff) (s : St) (h1 : e.wr = true → ∀ i ∈ e.ids, i < s.heap.length) (h2 : ∀ k, k < e.nws.length → e.fresh + k < s.heap.length) : (e.on s).obj = e.objF s.obj ∧ (e.on s).heap.length = s.heap.length := by
  have hput : ∀ (s : St) d v, (s.put d v).obj = s.obj ∧ (s.put d v).heap = s.heap := fun s d v => by cases d <;> exact ⟨rfl, rfl⟩
  unfold Eff.on Eff.objF
  simp only
  rw [(hput _ _ _).1, (hput _ _ _).2]
  have hw : (⟨s.tmps, if e.wr = true then setObjs s.heap e.ids e.os else s.heap⟩ : St).obj = (if e.wr = true then updL s.obj e.ids e.os else s.obj) ∧ (if e.wr = true then setObjs s.heap e.ids e.os else s.heap).length = s.heap.length := by
    cases hwr : e.wr with
    | false => exact ⟨rfl, rfl⟩
    | true => simp only [if_true]; exact ⟨obj_setObjs _ _ _ (h1 hwr), setObjs_length _ _ _⟩
  rw [setObjs_length, hw.2]
  refine ⟨?_, rfl⟩
  rw [obj_setObjs _ _ _ (fun i hi => ?_), hw.1]
  obtain ⟨k, hk, e'⟩ := List.mem_range'.1 hi
  rw [hw.2, e', Nat.one_mul]
  exact h2 k hk

theorem obj_lt {s : St} {i : Nat} (h : (s.obj i).isSome = true) : i < s.heap.length := by
  unfold St.obj at h
  rcases Nat.lt_or_ge i s.heap.length with h' | h'
  · exact h'
  · rw [List.getElem?_eq_none h'] at h; cases h

/-- what a call touches is there. -/
theorem enter_in {obj : Nat → Option Obj} {key res fresh : Nat} {vs : List V} {r : V} {is : List Nat} {os ns : List (Option Obj)} (he : enterCall call obj key vs res fresh = some (r, is, os, ns)) : (∀ i ∈ is, (obj i).isSome = true) ∧ ns.length ≤ res := by
  unfold enterCall at he
  split at he
  · cases he
  · split at he
    · cases he
    · rename_i L hL
      split at he
      · cases he
      · rename_i h hh
        split at he
        · cases he
        · simp only at he
          split at he
          · cases he
          · split at he
            · rename_i hle
              simp only [Option.some.injEq, Prod.mk.injEq] at he
              obtain ⟨rfl, rfl, rfl, rfl⟩ := he
              obtain ⟨q1, q2⟩ := renObjs_ok _ _ _ hh
              refine ⟨fun i hi => ?_, by rw [List.length_drop]; omega⟩
              have := placeOf_lt hi
              obtain ⟨o, m1, _⟩ := q2 (placeOf L i) (by simpa using this)
              rw [List.getElem?_map, placeOf_get hi] at m1
              simp only [Option.map_some, Option.some.injEq] at m1
              rw [m1]; rfl
            · cases he

theorem callee_nmk {op : Cop} {vs : List V} {key res : Nat} {as : List V} {fz : Bool} (h : callee op vs = some (key, as, res, fz)) : op.nmk = res := by
  unfold callee at h
  split at h <;> first | (simp only [Option.some.injEq, Prod.mk.injEq] at h; obtain ⟨_, _, rfl, _⟩ := h; rfl) | cases h

/-- what an effect touches is there. -/
theorem eff_in {get : Nat → V} {obj : Nat → Option Obj} {c : CO} {fresh : Nat} {e : Eff} (he : effF call get obj c fresh = some e) :
    (e.wr = true → ∀ i ∈ e.ids, (obj i).isSome = true) ∧ e.nws.length ≤ c.op.nmk ∧ e.fresh = fresh ∧ e.dst = c.dst := by
  unfold effF at he
  split at he
  · cases he
  · simp only [Option.some.injEq] at he; subst he; simp
  · split at he
    · split at he
      · cases he
      · rename_i hcl
        split at he
        · cases he
        · rename_i hent
          simp only [Option.some.injEq] at he
          subst he
          obtain ⟨h1, h2⟩ := enter_in hent
          exact ⟨fun _ => h1, by rw [callee_nmk hcl]; exact h2, rfl, rfl⟩
    · rename_i hcall
      split at he
      · cases he
      · rename_i r hr
        simp only [Option.some.injEq] at he
        subst he
        refine ⟨fun hw => (act_ids hw hr).1, ?_, rfl, rfl⟩
        cases hx : r.nw with
        | none => simp [Res.nws, hx]
        | some x =>
          have hm : c.op.mk = true := by
            cases hm : c.op.mk with
            | true => rfl
            | false => rw [act_nw hm hr] at hx; cases hx
          have : c.op.nmk = 1 := by
            unfold Cop.nmk
            cases hop : c.op <;> rw [hop] at hm hcall <;> first | (simp [Cop.mk] at hm; done) | (simp [Cop.isCall] at hcall; done) | simp [Cop.mk]
          rw [this]; simp [Res.nws, hx]

theorem updL_none {obj : Nat → Option Obj} {j : Nat} (hj : obj j = none) : ∀ (is : List Nat) (os : List (Option Obj)), j ∉ is → updL obj is os j = none
  | [], _, _ => by simpa [updL] using hj
  | _ :: _, [], _ => by simpa [updL] using hj
  | i :: is, o :: os, h => by
    simp only [updL]
    simp only [List.mem_cons, not_or] at h
    exact updL_none (by rw [updO_ne _ _ h.1]; exact hj) is os h.2

theorem countMk_cons (o : CO) (r : List CO) : countMk (o :: r) = o.op.nmk + countMk r := rfl

/-! ### a region in the order of its text -/

/-- the operations are the compiled ones. -/
inductive CompOps (P : Program) (tab : Tab) (nt : Nat) (ops : Array Oper) : List Oper → List CO → Prop where
  | nil : CompOps P tab nt ops [] []
  | cons {o : Oper} {c : CO} {os : List Oper} {cs : List CO} (frz : Bool) (h1 : compOp P tab frz o = some c.op) (h2 : c.dst = o.dst) (h3 : ∀ d, o.dst = some d → d < nt) (h4 : compGuard ops o.guard = some c.guard) (h5 : CompOps P tab nt ops os cs) : CompOps P tab nt ops (o :: os) (c :: cs)

theorem compOps_ok {nt : Nat} {ops : Array Oper} {draw : Bool} : ∀ {os : List Oper} {pre : List Nat} {fz : List Bool} {cs : List CO} {fz' : List Bool}, compOps P tab nt ops draw os pre fz = some (cs, fz') →
    CompOps P tab nt ops os cs ∧ (draw = true → ∀ i c, cs[i]? = some c → c.pre = pre.getD i 0)
  | [], pre, fz, cs, fz', h => by
    simp only [compOps, Option.some.injEq, Prod.mk.injEq] at h
    obtain ⟨rfl, rfl⟩ := h
    exact ⟨.nil, fun _ i c h => by simp at h⟩
  | o :: r, pre, fz, cs, fz', h => by
    simp only [compOps] at h
    split at h
    · rename_i c g cs' fz'' h1 h2 h3
      split at h
      · rename_i hd
        simp only [Option.some.injEq, Prod.mk.injEq] at h
        obtain ⟨rfl, rfl⟩ := h
        obtain ⟨k1, k2⟩ := compOps_ok h3
        refine ⟨.cons _ h1 rfl (fun d e => by simpa [dstOk, e] using hd) h2 k1, fun hdr i c' hc => ?_⟩
        cases i with
        | zero =>
          simp only [List.getElem?_cons_zero, Option.some.injEq] at hc
          subst hc
          simp only [hdr, if_true]
          cases pre <;> rfl
        | succ i =>
          simp only [List.getElem?_cons_succ] at hc
          have := k2 hdr i c' hc
          rw [this]
          cases pre <;> simp
      · cases h
    · cases h

theorem CompOps.get {nt : Nat} {ops : Array Oper} : ∀ {os : List Oper} {cs : List CO}, CompOps P tab nt ops os cs → os.length = cs.length ∧ ∀ (i : Nat) (c : CO), cs[i]? = some c → ∃ o frz, os[i]? = some o ∧ compOp P tab frz o = some c.op ∧ c.dst = o.dst ∧ (∀ d, o.dst = some d → d < nt) ∧ compGuard ops o.guard = some c.guard
  | [], [], .nil => ⟨rfl, fun i c h => by simp at h⟩
  | o :: os, c :: cs, .cons frz h1 h2 h3 h4 h5 => by
    obtain ⟨k1, k2⟩ := h5.get
    refine ⟨by simp [k1], fun i c' hc => ?_⟩
    cases i with
    | zero => simp only [List.getElem?_cons_zero, Option.some.injEq] at hc; subst hc; exact ⟨o, frz, rfl, h1, h2, h3, h4⟩
    | succ i => simpa using k2 i c' (by simpa using hc)

/-- the region's run: each operation's effect, where it was carried out. -/
theorem runOps_step {base : Nat} {c : CO} {r : List CO} {j : Nat} {s s' : St} {es : List Eff} (h : runOps call base (c :: r) j s = some (s', es)) :
    ∃ e es', effF call s.get s.obj c (base + j) = some e ∧ runOps call base r (j + c.op.nmk) (e.on s) = some (s', es') ∧ es = e :: es' := by
  simp only [runOps] at h
  split at h
  · cases h
  · rename_i e he
    split at h
    · rename_i s2 es2 h2
      simp only [Option.some.injEq, Prod.mk.injEq] at h
      obtain ⟨rfl, rfl⟩ := h
      rw [opEff_eq] at he
      exact ⟨e, es2, he, h2, rfl⟩
    · cases h

/-- numbers that are not given yet. -/
def freeFrom (s : St) (base j n : Nat) : Prop := s.heap.length = base + n ∧ ∀ q, j ≤ q → s.obj (base + q) = none

theorem free_step {s : St} {base j n : Nat} {c : CO} {e : Eff} (hF : freeFrom s base j n) (hj : j + c.op.nmk ≤ n) (he : effF call s.get s.obj c (base + j) = some e) :
    (e.on s).get = e.getF s.get ∧ (e.on s).obj = e.objF s.obj ∧ freeFrom (e.on s) base (j + c.op.nmk) n := by
  obtain ⟨h1, h2, h3, _⟩ := eff_in he
  obtain ⟨k1, k2⟩ := on_obj e s (fun hw i hi => obj_lt (h1 hw i hi)) (fun k hk => by rw [h3, hF.1]; omega)
  refine ⟨on_get e s, k1, by rw [k2]; exact hF.1, fun q hq => ?_⟩
  rw [k1]
  have h0 := hF.2 q (by omega)
  have hw : (if e.wr = true then updL s.obj e.ids e.os else s.obj) (base + q) = none := by
    split
    · rename_i hwr
      exact updL_none h0 _ _ (fun hm => by have := h1 hwr _ hm; rw [h0] at this; cases this)
    · exact h0
  unfold Eff.objF
  refine updL_none hw _ _ (fun hm => ?_)
  obtain ⟨k, hk, e'⟩ := List.mem_range'.1 hm
  rw [h3] at e'
  omega

theorem seq_ops (hB : BodyOk P tab) (hCall : CallOk P tab call) {ops : Array Oper} {nt : Nat} {Q : Exit → Act → World → Prop} {g0 : Gh} {obj0 : Nat → Option Obj} {w0 : World} {base n : Nat} {s' : St} {os : List Oper} {cs : List CO} (hc : CompOps P tab nt ops os cs) :
    ∀ (i : Nat), (∀ q o, os[q]? = some o → ops[i + q]? = some o) → ∀ (j : Nat) (s : St) (es : List Eff) (g : Gh) (a : Act) (w : World), j + countMk cs = n → freeFrom s base j n → runOps call base cs j s = some (s', es) → Go1 tab nt g0 obj0 w0 g s.get s.obj a w →
      (∀ g' a' w', Go1 tab nt g0 obj0 w0 g' s'.get s'.obj a' w' → Q .normal a' w') → wpOps P ops Q (List.range' i os.length) a w := by
  induction hc with
  | nil =>
    intro i hi j s es g a w hn hF hr hR hQ
    simp only [runOps, Option.some.injEq, Prod.mk.injEq] at hr
    obtain ⟨rfl, rfl⟩ := hr
    simp only [List.length_nil, List.range'_zero, wpOps]
    exact hQ g a w hR
  | @cons o c os cs frz h1 h2 h3 h4 h5 ih =>
    intro i hi j s es g a w hn hF hr hR hQ
    obtain ⟨e, es', he, hr', rfl⟩ := runOps_step hr
    rw [countMk_cons] at hn
    obtain ⟨f1, f2, f3⟩ := free_step hF (by omega) he
    rw [List.length_cons, List.range'_succ, wpOps_cons]
    refine op_step hB hCall (hi 0 o rfl) h1 h2 h3 h4 hR ⟨_, hF.2 j (Nat.le_refl _)⟩ (fun k _ => by rw [Nat.add_assoc]; exact hF.2 (j + k) (Nat.le_add_right _ _)) he (fun g' a' w' hR' => ?_)
    rw [← f1, ← f2] at hR'
    refine ih (i + 1) (fun q o' hq => ?_) _ _ es' g' a' w' ?_ f3 hr' hR' hQ
    · have := hi (q + 1) o' (by simpa using hq)
      rwa [show i + (q + 1) = i + 1 + q by omega] at this
    · omega

theorem region_seq (hB : BodyOk P tab) (hCall : CallOk P tab call) {id : Nat} {ops : Array Oper} {nt : Nat} {cs : List CO} (hc : CompOps P tab nt ops ops.toList cs) {s s' : St} (hr : runRegion call false cs s = some s') {g : Gh} {a : Act} {w : World} (hR : Rel tab nt g s.get s.obj a w)
    {Q : Exit → Act → World → Prop} (hQ : ∀ g' a' w', Go1 tab nt g s.obj w g' s'.get s'.obj a' w' → Q .normal a' w') : (Code.region id ops false).wp P Q a w := by
  unfold runRegion at hr
  simp only at hr
  split at hr
  · rename_i s2 es hrun
    simp only [Bool.false_eq_true, if_false, Option.some.injEq] at hr
    subst hr
    refine wp_region ?_
    rw [List.range_eq_range', ← Array.length_toList]
    have hobj : (⟨s.tmps, s.heap ++ List.replicate (countMk cs) none⟩ : St).obj = s.obj := by
      funext q
      unfold St.obj
      simp only
      rcases Nat.lt_or_ge q s.heap.length with h | h
      · rw [List.getElem?_append_left h]
      · rw [List.getElem?_append_right h, List.getElem?_eq_none h, List.getElem?_replicate]
        split <;> rfl
    refine seq_ops (n := countMk cs) hB hCall hc 0 (fun q o hq => by simpa using hq) 0 _ es g a w (Nat.zero_add _) ⟨by simp, fun q _ => ?_⟩ hrun ⟨?_, ?_⟩ hQ
    · rw [hobj]
      unfold St.obj
      rw [List.getElem?_eq_none (by omega)]; rfl
    · rw [hobj]; exact hR
    · rw [hobj]; exact .refl _ _ _
  · cases hr

end
end Ab

/-
  A region's operations in any order that its edges let be.
-/
namespace Ab
open Go
open Go.RowKit (Below)
set_option linter.unusedVariables false

/-! ### some of the effects, in the text's order -/

section
variable {α β : Type} (F : Eff → (α → β) → (α → β))

def ap : List Eff → (Nat → Bool) → Nat → (α → β) → (α → β)
  | [], _, _, x => x
  | e :: es, S, i, x => ap es S (i + 1) (if S i then F e x else x)

variable {F} {T : Eff → α → Prop} (hc : ∀ e x y t, x t = y t → F e x t = F e y t) (hu : ∀ e x t, ¬ T e t → F e x t = x t)
include hc hu

theorem ap_agree {t : α} {S S' : Nat → Bool} : ∀ (es : List Eff) (i : Nat) (x y : α → β), (∀ q e, es[q]? = some e → T e t → S (i + q) = S' (i + q)) → x t = y t → ap F es S i x t = ap F es S' i y t
  | [], i, x, y, _, h => h
  | e :: es, i, x, y, h, hxy => by
    simp only [ap]
    refine ap_agree es (i + 1) _ _ (fun q e' he ht => by have := h (q + 1) e' (by simpa using he) ht; rwa [show i + (q + 1) = i + 1 + q by omega] at this) ?_
    by_cases ht : T e t
    · have := h 0 e rfl ht
      rw [Nat.add_zero] at this
      rw [this]
      split
      · exact hc e x y t hxy
      · exact hxy
    · have h1 : (if S i = true then F e x else x) t = x t := by split; exact hu e x t ht; rfl
      have h2 : (if S' i = true then F e y else y) t = y t := by split; exact hu e y t ht; rfl
      rw [h1, h2, hxy]

theorem ap_none {t : α} {S : Nat → Bool} : ∀ (es : List Eff) (i : Nat) (x : α → β), (∀ q e, es[q]? = some e → S (i + q) = true → ¬ T e t) → ap F es S i x t = x t
  | [], i, x, _ => rfl
  | e :: es, i, x, h => by
    simp only [ap]
    rw [ap_none es (i + 1) _ (fun q e' he hs => h (q + 1) e' (by simpa using he) (by rwa [show i + (q + 1) = i + 1 + q by omega]))]
    split
    · rename_i hs; exact hu e x t (h 0 e rfl (by simpa using hs))
    · rfl

omit hc hu in
theorem ap_append {S : Nat → Bool} : ∀ (pre post : List Eff) (i : Nat) (x : α → β), ap F (pre ++ post) S i x = ap F post S (i + pre.length) (ap F pre S i x)
  | [], post, i, x => rfl
  | e :: pre, post, i, x => by
    simp only [List.cons_append, ap]
    rw [ap_append pre post (i + 1)]
    simp only [List.length_cons]
    rw [show i + 1 + pre.length = i + (pre.length + 1) by omega]

theorem ap_extend {S : Nat → Bool} {es : List Eff} {k : Nat} {e : Eff} (hk : es[k]? = some e) (hS : S k = false) (t : α) (x : α → β) (h : ∀ q e', k < q → es[q]? = some e' → S q = true → T e' t → T e t → False) :
    ap F es (fun i => S i || i == k) 0 x t = F e (ap F es S 0 x) t := by
  by_cases ht : T e t
  · have hlt : k < es.length := by
      rcases Nat.lt_or_ge k es.length with h | h
      · exact h
      · rw [List.getElem?_eq_none h] at hk; cases hk
    have hes : es = es.take k ++ e :: es.drop (k + 1) := by
      have h1 := List.take_append_drop k es
      rw [List.drop_eq_getElem_cons hlt] at h1
      rw [List.getElem?_eq_getElem hlt] at hk
      simp only [Option.some.injEq] at hk
      rw [hk] at h1
      exact h1.symm
    have hpl : (es.take k).length = k := by simp; omega
    have hpre : ap F (es.take k) (fun i => S i || i == k) 0 x = ap F (es.take k) S 0 x := by
      funext t'
      refine ap_agree hc hu (S := fun i => S i || i == k) (S' := S) (es.take k) 0 x x (fun q e' he _ => ?_) rfl
      have hq : q < k := by
        rcases Nat.lt_or_ge q k with h | h
        · exact h
        · rw [List.getElem?_eq_none (by rw [hpl]; exact h)] at he; cases he
      simp only [Nat.zero_add]
      have : (q == k) = false := by simp; omega
      rw [this, Bool.or_false]
    have later : ∀ q e', (es.drop (k + 1))[q]? = some e' → S (k + 1 + q) = true → ¬ T e' t := fun q e' he hs ht' => by
      rw [List.getElem?_drop] at he
      exact h (k + 1 + q) e' (by omega) he hs ht' ht
    have e1 : ap F es (fun i => S i || i == k) 0 x t = F e (ap F (es.take k) S 0 x) t := by
      conv => lhs; rw [hes]
      rw [ap_append, hpl, hpre]
      simp only [ap, Nat.zero_add, hS, beq_self_eq_true, Bool.or_true, if_true]
      refine ap_none hc hu _ _ _ (fun q e' he hs => later q e' he ?_)
      simp only [Bool.or_eq_true, beq_iff_eq] at hs
      rcases hs with hs | hs
      · exact hs
      · omega
    have e2 : ap F es S 0 x t = ap F (es.take k) S 0 x t := by
      conv => lhs; rw [hes]
      rw [ap_append, hpl]
      simp only [ap, Nat.zero_add, hS, Bool.false_eq_true, if_false]
      exact ap_none hc hu _ _ _ later
    rw [e1]
    exact hc e _ _ t e2.symm
  · rw [hu e _ t ht]
    refine ap_agree hc hu es 0 x x (fun q e' he ht' => ?_) rfl
    simp only [Nat.zero_add]
    by_cases hq : q = k
    · subst hq
      rw [hk] at he
      simp only [Option.some.injEq] at he
      subst he
      exact absurd ht' ht
    · have : (q == k) = false := by simp [hq]
      rw [this, Bool.or_false]
end

/-! ### slots and objects -/

def tG (e : Eff) (t : Nat) : Prop := e.dst = some t
def tO (e : Eff) (i : Nat) : Prop := (e.wr = true ∧ i ∈ e.ids) ∨ e.new i = true

theorem getF_congr (e : Eff) (x y : Nat → V) (t : Nat) (h : x t = y t) : e.getF x t = e.getF y t := by
  unfold Eff.getF putF
  cases e.dst with
  | none => exact h
  | some d => simp only; split; rfl; exact h

theorem getF_un (e : Eff) (x : Nat → V) (t : Nat) (h : ¬ tG e t) : e.getF x t = x t := by
  unfold Eff.getF putF
  unfold tG at h
  cases hd : e.dst with
  | none => rfl
  | some d => simp only; rw [if_neg]; intro e'; subst e'; exact h hd

theorem updL_congr {x y : Nat → Option Obj} {t : Nat} : ∀ (is : List Nat) (os : List (Option Obj)) (x y : Nat → Option Obj), x t = y t → updL x is os t = updL y is os t
  | [], _, _, _, h => by simpa [updL] using h
  | _ :: _, [], _, _, h => by simpa [updL] using h
  | i :: is, o :: os, x, y, h => by
    simp only [updL]
    refine updL_congr (x := x) (y := y) is os _ _ ?_
    unfold updO
    split
    · rfl
    · exact h

theorem objF_congr (e : Eff) (x y : Nat → Option Obj) (t : Nat) (h : x t = y t) : e.objF x t = e.objF y t := by
  have hw : (if e.wr = true then updL x e.ids e.os else x) t = (if e.wr = true then updL y e.ids e.os else y) t := by
    split
    · exact updL_congr (x := x) (y := y) _ _ _ _ h
    · exact h
  unfold Eff.objF
  exact updL_congr (x := x) (y := y) _ _ _ _ hw

theorem new_iff (e : Eff) (i : Nat) : e.new i = true ↔ ∃ k, k < e.nws.length ∧ i = e.fresh + k := by
  simp only [Eff.new, decide_eq_true_eq]
  constructor
  · intro h; exact ⟨i - e.fresh, by omega, by omega⟩
  · rintro ⟨k, h1, h2⟩; omega

theorem objF_un (e : Eff) (x : Nat → Option Obj) (t : Nat) (h : ¬ tO e t) : e.objF x t = x t := by
  unfold tO at h
  have hw : (if e.wr = true then updL x e.ids e.os else x) t = x t := by
    split
    · rename_i hwr
      exact updL_un _ _ _ (fun hm => h (.inl ⟨hwr, hm⟩))
    · rfl
  unfold Eff.objF
  rw [updL_un _ _ _ (fun hm => ?_), hw]
  obtain ⟨k, hk, e'⟩ := List.mem_range'.1 hm
  exact h (.inr ((new_iff e t).2 ⟨k, hk, by omega⟩))

/-- a call looks at what it reaches alone. -/
theorem enter_congr {call : CallF} {obj obj' : Nat → Option Obj} {key res fresh : Nat} {vs : List V} {r : V} {is : List Nat} {os ns : List (Option Obj)} (he : enterCall call obj' key vs res fresh = some (r, is, os, ns)) (h : ∀ i ∈ is, obj i = obj' i) :
    enterCall call obj key vs res fresh = some (r, is, os, ns) := by
  unfold enterCall at he ⊢
  split at he
  · cases he
  · rename_i hs hhs
    split at he
    · cases he
    · rename_i L hL
      have hLe : L = is := by
        split at he
        · cases he
        · split at he
          · cases he
          · simp only at he
            split at he
            · cases he
            · split at he
              · simp only [Option.some.injEq, Prod.mk.injEq] at he
                exact he.2.1
              · cases he
      have hL' : reach obj far (V.refsAll hs) [] = some L := reach_congr far _ [] L hL (fun i hi => h i (by rw [← hLe]; exact hi)) (by simp)
      have hm : L.map obj = L.map obj' := List.map_congr_left fun i hi => h i (by rw [← hLe]; exact hi)
      simp only [hhs, hL', hm]
      exact he

theorem effF_congr {call : CallF} {get get' : Nat → V} {obj obj' : Nat → Option Obj} {c : CO} {fresh : Nat} {e : Eff} (h1 : ∀ t ∈ c.looks, get t = get' t) (he : effF call get' obj' c fresh = some e) (h2 : ∀ i ∈ e.ids, obj i = obj' i) :
    effF call get obj c fresh = some e := by
  have hw : wantedF get c.guard = wantedF get' c.guard := by
    cases hg : c.guard with
    | none => rfl
    | some p =>
      obtain ⟨t, want⟩ := p
      simp only [wantedF]
      rw [h1 t (by simp [CO.looks, hg])]
  have ha : c.op.args.map (evA get) = c.op.args.map (evA get') := by
    refine List.map_congr_left fun a ha => ?_
    cases a with
    | k v => rfl
    | t t => exact h1 t (by simp only [CO.looks, List.mem_append, List.mem_flatMap]; exact .inl ⟨.t t, ha, by simp [aSlots]⟩)
  unfold effF at he ⊢
  rw [hw, ha]
  split at he
  · cases he
  · rename_i hg; exact he
  · rename_i hg
    split at he
    · rename_i hcall
      simp only [hcall, if_true]
      split at he
      · cases he
      · split at he
        · cases he
        · rename_i hent
          simp only [Option.some.injEq] at he
          subst he
          rw [enter_congr hent h2]
    · rename_i hcall
      simp only [hcall, if_false]
      split at he
      · cases he
      · rename_i r hr
        simp only [Option.some.injEq] at he
        subst he
        have hm : (c.op.ids (c.op.args.map (evA get'))).map obj = (c.op.ids (c.op.args.map (evA get'))).map obj' := List.map_congr_left fun i hi => h2 i hi
        simp only [hm, hr]
        simp

/-! ### what was checked -/

theorem apartFrom_get {c : CO} {k : Nat} : ∀ (r : List CO), apartFrom c k r = true → ∀ (j : Nat) (b : CO), r[j]? = some b → b.pre.testBit k = true ∨ apartC c b = true := by
  intro r
  induction r with
  | nil => intro _ j b hb; simp at hb
  | cons x r ih =>
    intro h j b hb
    simp only [apartFrom, Bool.and_eq_true, Bool.or_eq_true] at h
    cases j with
    | zero => simp only [List.getElem?_cons_zero, Option.some.injEq] at hb; subst hb; exact h.1
    | succ j => exact ih h.2 j b (by simpa using hb)

theorem slotsOk_get (cs : List CO) : ∀ (k : Nat), slotsOk cs k = true → ∀ (i j : Nat) (a b : CO), i < j → cs[i]? = some a → cs[j]? = some b → b.pre.testBit (k + i) = true ∨ apartC a b = true := by
  induction cs with
  | nil => intro k h i j a b hij ha hb; simp at ha
  | cons c cs ih =>
    intro k h i j a b hij ha hb
    simp only [slotsOk, Bool.and_eq_true] at h
    obtain ⟨j, rfl⟩ : ∃ j', j = j' + 1 := ⟨j - 1, by omega⟩
    rw [List.getElem?_cons_succ] at hb
    cases i with
    | zero =>
      simp only [List.getElem?_cons_zero, Option.some.injEq] at ha
      subst ha
      exact apartFrom_get cs h.1 j b hb
    | succ i =>
      rw [List.getElem?_cons_succ] at ha
      have := ih (k + 1) h.2 i j a b (by omega) ha hb
      rwa [show k + 1 + i = k + (i + 1) by omega] at this

theorem raceFrom_get {x : Eff} {k : Nat} : ∀ (r : List CO) (es : List Eff), raceFrom x k r es = true → ∀ (j : Nat) (b : CO) (e' : Eff), r[j]? = some b → es[j]? = some e' → b.pre.testBit k = true ∨ clash x e' = false := by
  intro r
  induction r with
  | nil => intro es _ j b e' hb; simp at hb
  | cons y r ih =>
    intro es h j b e' hb he'
    cases es with
    | nil => simp at he'
    | cons z es =>
      simp only [raceFrom, Bool.and_eq_true, Bool.or_eq_true, Bool.not_eq_true'] at h
      cases j with
      | zero => simp only [List.getElem?_cons_zero, Option.some.injEq] at hb he'; subst hb; subst he'; exact h.1
      | succ j => exact ih es h.2 j b e' (by simpa using hb) (by simpa using he')

theorem noRace_get (cs : List CO) : ∀ (es : List Eff) (k : Nat), noRace cs es k = true → ∀ (i j : Nat) (b : CO) (e e' : Eff), i < j → cs[j]? = some b → es[i]? = some e → es[j]? = some e' → b.pre.testBit (k + i) = true ∨ clash e e' = false := by
  induction cs with
  | nil => intro es k h i j b e e' hij hb; simp at hb
  | cons c cs ih =>
    intro es k h i j b e e' hij hb he he'
    obtain ⟨j, rfl⟩ : ∃ j', j = j' + 1 := ⟨j - 1, by omega⟩
    rw [List.getElem?_cons_succ] at hb
    cases es with
    | nil => simp at he
    | cons x es =>
      rw [List.getElem?_cons_succ] at he'
      simp only [noRace, Bool.and_eq_true] at h
      cases i with
      | zero =>
        simp only [List.getElem?_cons_zero, Option.some.injEq] at he
        subst he
        exact raceFrom_get cs es h.1 j b e' hb he'
      | succ i =>
        rw [List.getElem?_cons_succ] at he
        have := ih es (k + 1) h.2 i j b e e' (by omega) hb he he'
        rwa [show k + 1 + i = k + (i + 1) by omega] at this

theorem edgesOk_get : ∀ {os : List Oper} {k : Nat}, edgesOk os k = true → ∀ {i : Nat} {o : Oper}, os[i]? = some o → ∀ e ∈ o.after, Region.binds .any e = true → e.on < k + i
  | [], k, h, i, o, ho => by simp at ho
  | x :: os, k, h, 0, o, ho => by
    simp only [edgesOk, Bool.and_eq_true, List.all_eq_true] at h
    simp only [List.getElem?_cons_zero, Option.some.injEq] at ho
    subst ho
    intro e he hb
    have := h.1 e (by simpa using he)
    simpa [hb] using this
  | x :: os, k, h, i + 1, o, ho => by
    simp only [edgesOk, Bool.and_eq_true] at h
    intro e he hb
    have := edgesOk_get h.2 (i := i) (by simpa using ho) e he hb
    omega

theorem maskOf_bit {o : Oper} {acc : List Nat} {j : Nat} (h : (maskOf o acc).testBit j = true) : ∃ e ∈ o.after, Region.binds .any e = true ∧ (e.on = j ∨ (acc.getD e.on 0).testBit j = true) := by
  unfold maskOf at h
  have : ∀ (l : List Edge) (s : Nat), (l.foldl (fun s e => if Region.binds .any e then s ||| 2 ^ e.on ||| acc.getD e.on 0 else s) s).testBit j = true → s.testBit j = true ∨ ∃ e ∈ l, Region.binds .any e = true ∧ (e.on = j ∨ (acc.getD e.on 0).testBit j = true) := by
    intro l
    induction l with
    | nil => intro s h; exact .inl h
    | cons e l ih =>
      intro s h
      simp only [List.foldl_cons] at h
      rcases ih _ h with h' | ⟨e', he', h'⟩
      · split at h'
        · rename_i hb
          rw [Nat.testBit_or, Nat.testBit_or] at h'
          simp only [Bool.or_eq_true] at h'
          rcases h' with (h' | h') | h'
          · exact .inl h'
          · rw [Nat.testBit_two_pow] at h'
            exact .inr ⟨e, by simp, hb, .inl (by simpa using h')⟩
          · exact .inr ⟨e, by simp, hb, .inr h'⟩
        · exact .inl h'
      · exact .inr ⟨e', by simp [he'], h'⟩
  rcases this _ _ h with h | ⟨e, he, h⟩
  · simp at h
  · exact ⟨e, by simpa using he, h⟩

theorem presOf_get : ∀ (os : List Oper) (acc : List Nat), (∀ i, i < acc.length → (presOf os acc).getD i 0 = acc.getD i 0) ∧ ∀ i o, os[i]? = some o → ∀ j, ((presOf os acc).getD (acc.length + i) 0).testBit j = true → ∃ e ∈ o.after, Region.binds .any e = true ∧ (e.on = j ∨ ((presOf os acc).getD e.on 0).testBit j = true)
  | [], acc => ⟨fun i _ => rfl, fun i o h => by simp at h⟩
  | x :: os, acc => by
    obtain ⟨h1, h2⟩ := presOf_get os (acc ++ [maskOf x acc])
    simp only [presOf]
    have keep : ∀ i, i < acc.length → (presOf os (acc ++ [maskOf x acc])).getD i 0 = acc.getD i 0 := fun i hi => by
      rw [h1 i (by simp; omega)]
      simp [List.getElem?_append_left hi]
    refine ⟨keep, fun i o ho j hj => ?_⟩
    cases i with
    | zero =>
      simp only [List.getElem?_cons_zero, Option.some.injEq] at ho
      subst ho
      rw [Nat.add_zero, h1 acc.length (by simp)] at hj
      have : (acc ++ [maskOf x acc]).getD acc.length 0 = maskOf x acc := by simp
      rw [this] at hj
      obtain ⟨e, he, hb, h⟩ := maskOf_bit hj
      refine ⟨e, he, hb, h.imp id fun h => ?_⟩
      rcases Nat.lt_or_ge e.on acc.length with hl | hl
      · rw [keep _ hl]; exact h
      · have : acc.getD e.on 0 = 0 := by simp [List.getElem?_eq_none hl]
        rw [this] at h; simp at h
    | succ i =>
      have := h2 i o (by simpa using ho) j
      simp only [List.length_append, List.length_cons, List.length_nil] at this
      exact this (by rwa [show acc.length + (0 + 1) + i = acc.length + (i + 1) by omega])

end Ab

/-
  A region's operations in any order that its edges let be: the whole of it.
-/
namespace Ab
open Go
open Go.RowKit (Below)
set_option linter.unusedVariables false

theorem ap_shift {α β : Type} {F : Eff → (α → β) → (α → β)} {S : Nat → Bool} : ∀ (es : List Eff) (i : Nat) (x : α → β), ap F es S (i + 1) x = ap F es (fun q => S (q + 1)) i x
  | [], _, _ => rfl
  | e :: es, i, x => by simp only [ap]; rw [ap_shift es (i + 1)]

abbrev apG := @ap Nat V Eff.getF
abbrev apO := @ap Nat (Option Obj) Eff.objF

/-- what a run in the text's order says of each operation. -/
structure Facts (call : CallF) (base j : Nat) (cs : List CO) (es : List Eff) (get0 : Nat → V) (obj0 : Nat → Option Obj) : Prop where
  each : ∀ k c, cs[k]? = some c → ∃ e, es[k]? = some e ∧ e.dst = c.dst ∧ effF call (apG es (fun q => decide (q < k)) 0 get0) (apO es (fun q => decide (q < k)) 0 obj0) c (base + j + countMk (cs.take k)) = some e ∧
    (∀ i, tO e i → i < base + j + countMk (cs.take (k + 1))) ∧ e.fresh = base + j + countMk (cs.take k) ∧ e.nws.length ≤ c.op.nmk
  len : es.length = cs.length

theorem run_facts {call : CallF} {base N : Nat} {s' : St} : ∀ (cs : List CO) (j : Nat) (s : St) (es : List Eff), runOps call base cs j s = some (s', es) → freeFrom s base j N → j + countMk cs = N →
    Facts call base j cs es s.get s.obj ∧ s'.get = apG es (fun _ => true) 0 s.get ∧ s'.obj = apO es (fun _ => true) 0 s.obj ∧ ∀ q, N ≤ q → s'.obj (base + q) = none
  | [], j, s, es, h, hF, hn => by
    simp only [runOps, Option.some.injEq, Prod.mk.injEq] at h
    obtain ⟨rfl, rfl⟩ := h
    refine ⟨⟨fun k c h => by simp at h, rfl⟩, rfl, rfl, fun q hq => hF.2 q ?_⟩
    simp only [countMk] at hn
    omega
  | c :: cs, j, s, es, h, hF, hn => by
    obtain ⟨e, es', he, hr', rfl⟩ := runOps_step h
    rw [countMk_cons] at hn
    obtain ⟨f1, f2, f3⟩ := free_step hF (by omega) he
    obtain ⟨⟨i1, i4⟩, i2, i3, i5⟩ := run_facts cs _ (e.on s) es' hr' f3 (by omega)
    obtain ⟨m1, m2, m4, m3⟩ := eff_in he
    refine ⟨⟨fun k c' hk => ?_, by simp [i4]⟩, ?_, ?_, i5⟩
    · cases k with
      | zero =>
        simp only [List.getElem?_cons_zero, Option.some.injEq] at hk
        subst hk
        have g0 : ∀ {β : Type} (F : Eff → (Nat → β) → (Nat → β)) (x : Nat → β), ap F (e :: es') (fun q => decide (q < 0)) 0 x = x := fun F x => by
          simp only [ap, Nat.not_lt_zero, decide_false, Bool.false_eq_true, if_false]
          have : ∀ (es : List Eff) (i : Nat) (y : Nat → _), ap F es (fun q => false) i y = y := by
            intro es
            induction es with
            | nil => intro i y; rfl
            | cons e es ih => intro i y; simp only [ap, Bool.false_eq_true, if_false]; exact ih (i + 1) y
          exact this _ _ _
        refine ⟨e, rfl, m3, ?_, fun i hi => ?_, by rw [m4]; simp [countMk], m2⟩
        · show effF call (ap Eff.getF _ _ _ _) (ap Eff.objF _ _ _ _) _ _ = _
          rw [g0, g0]
          simpa [countMk] using he
        · rcases hi with ⟨hw, hi⟩ | hi
          · have := m1 hw i hi
            rcases Nat.lt_or_ge i (base + j) with h | h
            · omega
            · obtain ⟨q, rfl⟩ : ∃ q, i = base + q := ⟨i - base, by omega⟩
              rw [hF.2 q (by omega)] at this; cases this
          · obtain ⟨q, h2, h3⟩ := (new_iff e i).1 hi
            rw [m4] at h3
            simp only [List.take_succ_cons, List.take_zero, countMk]
            omega
      | succ k =>
        rw [List.getElem?_cons_succ] at hk
        obtain ⟨e', n1, n2, n3, n4, n5, n6⟩ := i1 k c' hk
        have gs : ∀ {β : Type} (F : Eff → (Nat → β) → (Nat → β)) (x : Nat → β), ap F (e :: es') (fun q => decide (q < k + 1)) 0 x = ap F es' (fun q => decide (q < k)) 0 (F e x) := fun F x => by
          simp only [ap, Nat.zero_lt_succ, decide_true, if_true]
          rw [ap_shift]
          congr 1
          funext q
          simp
        have hcount : ∀ m, base + (j + c.op.nmk) + countMk (cs.take m) = base + j + countMk ((c :: cs).take (m + 1)) := fun m => by
          rw [List.take_succ_cons, countMk_cons]; omega
        refine ⟨e', by simpa using n1, n2, ?_, fun i hi => ?_, by rw [← hcount]; exact n5, n6⟩
        · show effF call (ap Eff.getF _ _ _ _) (ap Eff.objF _ _ _ _) _ _ = _
          rw [gs, gs, ← f1, ← f2, ← hcount]
          exact n3
        · have := n4 i hi
          rwa [hcount] at this
    · rw [i2]
      show _ = ap Eff.getF _ _ _ _
      simp only [ap, if_true]
      rw [ap_shift, f1]
    · rw [i3]
      show _ = ap Eff.objF _ _ _ _
      simp only [ap, if_true]
      rw [ap_shift, f2]

theorem countMk_take_le : ∀ (cs : List CO) (i j : Nat), i ≤ j → countMk (cs.take i) ≤ countMk (cs.take j)
  | [], i, j, _ => by simp [countMk]
  | c :: cs, 0, j, _ => by simp [countMk]
  | c :: cs, i + 1, 0, h => by omega
  | c :: cs, i + 1, j + 1, h => by
    simp only [List.take_succ_cons, countMk_cons]
    have := countMk_take_le cs i j (by omega)
    omega

theorem countMk_take_succ : ∀ {cs : List CO} {k : Nat} {c : CO}, cs[k]? = some c → countMk (cs.take (k + 1)) = countMk (cs.take k) + c.op.nmk
  | c' :: cs, 0, c, h => by simp only [List.getElem?_cons_zero, Option.some.injEq] at h; subst h; simp [countMk]
  | c' :: cs, k + 1, c, h => by
    rw [List.getElem?_cons_succ] at h
    have := countMk_take_succ h
    simp only [List.take_succ_cons, countMk_cons] at this ⊢
    omega
  | [], k, c, h => by simp at h

section
variable {P : Program} {tab : Tab} {call : CallF}

theorem clash_false {e e' : Eff} (h : clash e e' = false) (i : Nat) : ¬ (i ∈ e.ids ∧ tO e' i) ∧ ¬ (i ∈ e'.ids ∧ tO e i) := by
  unfold clash at h
  simp only [Bool.or_eq_false_iff, Bool.and_eq_false_iff] at h
  obtain ⟨⟨h1, h2⟩, h3⟩ := h
  have ov : i ∈ e.ids → i ∈ e'.ids → e.wr = false ∧ e'.wr = false := fun a b => by
    rcases h1 with h1 | h1
    · exact h1
    · exfalso
      have := List.any_eq_false.1 h1 i a
      simp only [List.contains_iff_mem, b, not_true_eq_false] at this
  refine ⟨fun ⟨a, b⟩ => ?_, fun ⟨a, b⟩ => ?_⟩
  · rcases b with ⟨b1, b2⟩ | b
    · have := (ov a b2).2; rw [b1] at this; cases this
    · exact List.any_eq_false.1 h2 i a b
  · rcases b with ⟨b1, b2⟩ | b
    · have := (ov b2 a).1; rw [b1] at this; cases this
    · exact List.any_eq_false.1 h3 i a b

structure Setup (P : Program) (tab : Tab) (call : CallF) (nt : Nat) (ops : Array Oper) (cs : List CO) (es : List Eff) (base : Nat) (get0 : Nat → V) (obj0 : Nat → Option Obj) : Prop where
  comp : CompOps P tab nt ops ops.toList cs
  pre : ∀ i c, cs[i]? = some c → c.pre = (presOf ops.toList []).getD i 0
  slots : slotsOk cs 0 = true
  edges : edgesOk ops.toList 0 = true
  race : noRace cs es 0 = true
  facts : Facts call base 0 cs es get0 obj0
  free : ∀ q, obj0 (base + q) = none

/-- what is carried out is so with all that its edges ask for. -/
def Closed (ops : Array Oper) (S : Nat → Bool) : Prop := ∀ i o, S i = true → ops[i]? = some o → ∀ e ∈ o.after, Region.binds .any e = true → S e.on = true

theorem Setup.sizes {nt : Nat} {ops : Array Oper} {cs : List CO} {es : List Eff} {base : Nat} {get0 : Nat → V} {obj0 : Nat → Option Obj} (hS : Setup P tab call nt ops cs es base get0 obj0) : ops.size = cs.length := by
  have := hS.comp.get.1
  simpa using this

/-- ahead of one that may be next, or was carried out, all has been. -/
theorem ahead {nt : Nat} {ops : Array Oper} {cs : List CO} {es : List Eff} {base : Nat} {get0 : Nat → V} {obj0 : Nat → Option Obj} (hS : Setup P tab call nt ops cs es base get0 obj0) {S : Nat → Bool} (hcl : Closed ops S) :
    ∀ (n i : Nat), i < n → ∀ o, ops[i]? = some o → (∀ e ∈ o.after, Region.binds .any e = true → S e.on = true) → ∀ j, ((presOf ops.toList []).getD i 0).testBit j = true → S j = true := by
  intro n
  induction n with
  | zero => intro i hi; omega
  | succ n ih =>
    intro i hi o ho hready j hj
    have h2 := (presOf_get ops.toList []).2 i o (by simpa using ho) j (by simpa using hj)
    obtain ⟨e, he, hb, h⟩ := h2
    have hon := hready e he hb
    rcases h with h | h
    · rw [← h]; exact hon
    · have hlt := edgesOk_get hS.edges (i := i) (by simpa using ho) e he hb
      have hlt : e.on < i := by simpa using hlt
      have hisz : i < ops.size := (Array.getElem?_eq_some_iff.1 ho).1
      obtain ⟨o', ho'⟩ : ∃ o', ops[e.on]? = some o' := ⟨ops[e.on]'(by omega), Array.getElem?_eq_getElem (by omega)⟩
      exact ih e.on (by omega) o' ho' (hcl e.on o' hon ho') j h

/-- the next one does what it did in the text's order, and comes to what is carried out with it. -/
theorem next_eff {nt : Nat} {ops : Array Oper} {cs : List CO} {es : List Eff} {base : Nat} {get0 : Nat → V} {obj0 : Nat → Option Obj} (hS : Setup P tab call nt ops cs es base get0 obj0) {S : Nat → Bool} (hcl : Closed ops S) (hSn : ∀ i, S i = true → i < ops.size) {i : Nat} {c : CO} (hi : cs[i]? = some c) {o : Oper} (ho : ops[i]? = some o) (hSi : S i = false)
    (hready : ∀ e ∈ o.after, Region.binds .any e = true → S e.on = true) :
    ∃ e, es[i]? = some e ∧ effF call (apG es S 0 get0) (apO es S 0 obj0) c (base + countMk (cs.take i)) = some e ∧ (∀ k, k < e.nws.length → apO es S 0 obj0 (base + countMk (cs.take i) + k) = none) ∧ (∃ f, apO es S 0 obj0 f = none) ∧
      apG es (fun q => S q || q == i) 0 get0 = e.getF (apG es S 0 get0) ∧ apO es (fun q => S q || q == i) 0 obj0 = e.objF (apO es S 0 obj0) := by
  obtain ⟨e, h1, h2, h3, h4, h5, h6⟩ := hS.facts.each i c hi
  simp only [Nat.add_zero] at h3 h4 h5
  have hpre : ∀ j, c.pre.testBit j = true → S j = true := fun j hj => ahead hS hcl (i + 1) i (by omega) o ho hready j (by rw [← hS.pre i c hi]; exact hj)
  have hlater : ∀ q c', i < q → cs[q]? = some c' → S q = true → c'.pre.testBit i = false := fun q c' hq hc' hs => by
    cases hb : c'.pre.testBit i with
    | false => rfl
    | true =>
      have hqs := hSn q hs
      have hoq : ops[q]? = some ops[q] := Array.getElem?_eq_getElem hqs
      have := ahead hS hcl (q + 1) q (by omega) _ hoq (hcl q _ hs hoq) i (by rw [← hS.pre q c' hc']; exact hb)
      rw [hSi] at this; cases this
  have cof : ∀ (q : Nat) (e' : Eff), es[q]? = some e' → ∃ c', cs[q]? = some c' ∧ e'.dst = c'.dst ∧ (∀ i, tO e' i → i < base + countMk (cs.take (q + 1))) ∧ e'.fresh = base + countMk (cs.take q) ∧ e'.nws.length ≤ c'.op.nmk := fun q e' he' => by
    have hl := hS.facts.len
    have hq : q < cs.length := by
      rcases Nat.lt_or_ge q es.length with h | h
      · omega
      · rw [List.getElem?_eq_none h] at he'; cases he'
    obtain ⟨e2, k1, k2, k3, k4, k5, k6⟩ := hS.facts.each q _ (List.getElem?_eq_getElem hq)
    rw [he'] at k1
    simp only [Option.some.injEq] at k1
    subst k1
    simp only [Nat.add_zero] at k4 k5
    exact ⟨_, List.getElem?_eq_getElem hq, k2, k4, k5, k6⟩
  -- an earlier one that is not carried out, or a later one that is: they do not meet
  have apart1 : ∀ q e', es[q]? = some e' → S q ≠ decide (q < i) → (∀ t, t ∈ c.looks → ¬ tG e' t) ∧ (∀ x, x ∈ e.ids → ¬ tO e' x) := fun q e' he' hne => by
    obtain ⟨c', k1, k2, k3, k4, k5⟩ := cof q e' he'
    rcases Nat.lt_trichotomy q i with hq | hq | hq
    · have hsq : S q = false := by
        cases hs : S q with
        | false => rfl
        | true => exfalso; apply hne; simp [hs, hq]
      have hb : c.pre.testBit q = false := by
        cases hb : c.pre.testBit q with
        | false => rfl
        | true => have := hpre q hb; rw [hsq] at this; cases this
      have hs := slotsOk_get cs 0 hS.slots q i c' c hq k1 hi
      have hr := noRace_get cs es 0 hS.race q i c e' e hq hi he' h1
      simp only [Nat.zero_add, hb, Bool.false_eq_true, false_or] at hs hr
      refine ⟨fun t ht hg => ?_, fun x hx hxo => (clash_false hr x).2 ⟨hx, hxo⟩⟩
      unfold tG at hg
      rw [k2] at hg
      unfold apartC at hs
      simp only [hg, Bool.and_eq_true, Bool.not_eq_true'] at hs
      have := hs.1.1
      rw [List.contains_iff_mem.2 ht] at this; cases this
    · exfalso; apply hne; subst hq; simp [hSi]
    · have hsq : S q = true := by
        cases hs : S q with
        | true => rfl
        | false => exfalso; apply hne; rw [hs]; simp; omega
      have hb := hlater q c' hq k1 hsq
      have hs := slotsOk_get cs 0 hS.slots i q c c' hq hi k1
      have hr := noRace_get cs es 0 hS.race i q c' e e' hq k1 h1 he'
      simp only [Nat.zero_add, hb, Bool.false_eq_true, false_or] at hs hr
      refine ⟨fun t ht hg => ?_, fun x hx hxo => (clash_false hr x).1 ⟨hx, hxo⟩⟩
      unfold tG at hg
      rw [k2] at hg
      unfold apartC at hs
      simp only [hg, Bool.and_eq_true, Bool.not_eq_true'] at hs
      have := hs.2
      rw [List.contains_iff_mem.2 ht] at this; cases this
  refine ⟨e, h1, ?_, fun k hk => ?_, ⟨base + countMk cs, ?_⟩, ?_, ?_⟩
  · refine effF_congr (fun t ht => ?_) h3 (fun x hx => ?_)
    · refine ap_agree getF_congr getF_un es 0 _ _ (fun q e' he' hg => ?_) rfl
      rw [Nat.zero_add]
      exact Classical.byContradiction fun hne => (apart1 q e' he' hne).1 t ht hg
    · refine ap_agree objF_congr objF_un es 0 _ _ (fun q e' he' hg => ?_) rfl
      rw [Nat.zero_add]
      exact Classical.byContradiction fun hne => (apart1 q e' he' hne).2 x hx hg
  · -- its own number is not given yet
    have h7 := countMk_take_succ hi
    have : apO es S 0 obj0 (base + countMk (cs.take i) + k) = obj0 (base + countMk (cs.take i) + k) := by
      refine ap_none objF_congr objF_un es 0 obj0 (fun q e' he' hs hto => ?_)
      rw [Nat.zero_add] at hs
      obtain ⟨c', k1, k2, k3, k4, k5⟩ := cof q e' he'
      rcases Nat.lt_trichotomy q i with hq | hq | hq
      · have h8 := k3 _ hto
        have h9 := countMk_take_le cs (q + 1) i (by omega)
        omega
      · subst hq; rw [hSi] at hs; cases hs
      · have hb := hlater q c' hq k1 hs
        have hr := noRace_get cs es 0 hS.race i q c' e e' hq k1 h1 he'
        simp only [Nat.zero_add, hb, Bool.false_eq_true, false_or] at hr
        have hnew : tO e (base + countMk (cs.take i) + k) := .inr ((new_iff _ _).2 ⟨k, hk, by rw [h5]⟩)
        rcases hto with ⟨hw, hx⟩ | hx
        · exact (clash_false hr _).2 ⟨hx, hnew⟩
        · obtain ⟨k', m1, m2⟩ := (new_iff _ _).1 hx
          have h9 := countMk_take_le cs (i + 1) q (by omega)
          omega
    rw [this, Nat.add_assoc]
    exact hS.free _
  · have : apO es S 0 obj0 (base + countMk cs) = obj0 (base + countMk cs) := by
      refine ap_none objF_congr objF_un es 0 obj0 (fun q e' he' hs hto => ?_)
      obtain ⟨c', k1, k2, k3, k4, k5⟩ := cof q e' he'
      have h6 := k3 _ hto
      have h7 := countMk_take_le cs (q + 1) (max (q + 1) cs.length) (by omega)
      have h8 : cs.take (max (q + 1) cs.length) = cs := List.take_of_length_le (by omega)
      rw [h8] at h7
      omega
    rw [this]
    exact hS.free _
  · funext t
    refine ap_extend getF_congr getF_un h1 hSi t get0 (fun q e' hq he' hs t1 t2 => ?_)
    obtain ⟨c', k1, k2, k3, k4, k5⟩ := cof q e' he'
    have hb := hlater q c' hq k1 hs
    have hsl := slotsOk_get cs 0 hS.slots i q c c' hq hi k1
    simp only [Nat.zero_add, hb, Bool.false_eq_true, false_or] at hsl
    unfold tG at t1 t2
    rw [k2] at t1
    rw [h2] at t2
    unfold apartC at hsl
    simp [t1, t2] at hsl
  · funext t
    refine ap_extend objF_congr objF_un h1 hSi t obj0 (fun q e' hq he' hs t1 t2 => ?_)
    obtain ⟨c', k1, k2, k3, k4, k5⟩ := cof q e' he'
    have hb := hlater q c' hq k1 hs
    have hr := noRace_get cs es 0 hS.race i q c' e e' hq k1 h1 he'
    simp only [Nat.zero_add, hb, Bool.false_eq_true, false_or] at hr
    obtain ⟨r1, r2⟩ := clash_false hr t
    rcases t2 with ⟨w2, x2⟩ | x2
    · exact r1 ⟨x2, t1⟩
    · rcases t1 with ⟨w1, x1⟩ | x1
      · exact r2 ⟨x1, .inr x2⟩
      · obtain ⟨k1', m1, m2⟩ := (new_iff _ _).1 x1
        obtain ⟨k2', m3, m4⟩ := (new_iff _ _).1 x2
        have h7 := countMk_take_le cs (i + 1) q (by omega)
        have h8 := countMk_take_succ hi
        omega

theorem any_ops (hB : BodyOk P tab) (hCall : CallOk P tab call) {nt : Nat} {ops : Array Oper} {cs : List CO} {es : List Eff} {base : Nat} {get0 : Nat → V} {obj0 : Nat → Option Obj} (hS : Setup P tab call nt ops cs es base get0 obj0) {g0 : Gh} {ob0 : Nat → Option Obj} {w0 : World} {Q : Exit → Act → World → Prop}
    (hQ : ∀ g' a' w', Go1 tab nt g0 ob0 w0 g' (apG es (fun _ => true) 0 get0) (apO es (fun _ => true) 0 obj0) a' w' → Q .normal a' w') :
    ∀ (fuel : Nat) (listed : Array Bool) (g : Gh) (a : Act) (w : World), listed.size = ops.size → ((List.range ops.size).filter fun i => !listed.getD i false).length ≤ fuel → Closed ops (fun i => listed.getD i false) →
      Go1 tab nt g0 ob0 w0 g (apG es (fun i => listed.getD i false) 0 get0) (apO es (fun i => listed.getD i false) 0 obj0) a w → wpAny P .any ops Q fuel listed a w := by
  have hsize := hS.sizes
  have done : ∀ (listed : Array Bool) (g : Gh) (a : Act) (w : World), (∀ i, i < ops.size → listed.getD i false = true) →
      Go1 tab nt g0 ob0 w0 g (apG es (fun i => listed.getD i false) 0 get0) (apO es (fun i => listed.getD i false) 0 obj0) a w → Q .normal a w := by
    intro listed g a w hall hR
    refine hQ g a w ?_
    have e1 : apG es (fun i => listed.getD i false) 0 get0 = apG es (fun _ => true) 0 get0 := by
      funext t
      refine ap_agree getF_congr getF_un es 0 _ _ (fun q e' he' _ => ?_) rfl
      rw [Nat.zero_add]
      refine hall q ?_
      rcases Nat.lt_or_ge q es.length with h | h
      · have := hS.facts.len; omega
      · rw [List.getElem?_eq_none h] at he'; cases he'
    have e2 : apO es (fun i => listed.getD i false) 0 obj0 = apO es (fun _ => true) 0 obj0 := by
      funext t
      refine ap_agree objF_congr objF_un es 0 _ _ (fun q e' he' _ => ?_) rfl
      rw [Nat.zero_add]
      refine hall q ?_
      rcases Nat.lt_or_ge q es.length with h | h
      · have := hS.facts.len; omega
      · rw [List.getElem?_eq_none h] at he'; cases he'
    rw [← e1, ← e2]
    exact hR
  have getDs : ∀ (listed : Array Bool) i, listed.size = ops.size → i < ops.size → listed.getD i true = listed.getD i false := fun listed i h1 h2 => by
    simp [Array.getElem?_eq_getElem (show i < listed.size by omega)]
  have allDone : ∀ (listed : Array Bool), listed.size = ops.size → Region.ready .any ops listed = [] → ∀ n i, i < n → i < ops.size → listed.getD i false = true := by
    intro listed hsz hr n
    induction n with
    | zero => intro i hi; omega
    | succ n ih =>
      intro i hi hlt
      cases hv : listed.getD i false with
      | true => rfl
      | false =>
        exfalso
        have : i ∈ Region.ready .any ops listed := by
          rw [mem_ready]
          refine ⟨by rw [getDs listed i hsz hlt]; exact hv, ops[i], Array.getElem?_eq_getElem hlt, fun e he hb => ?_⟩
          have hon := edgesOk_get hS.edges (i := i) (o := ops[i]) (by simp [hlt]) e he hb
          exact ih e.on (by omega) (by omega)
        rw [hr] at this; cases this
  intro fuel
  induction fuel with
  | zero =>
    intro listed g a w hsz hcnt hcl hR
    have hnil : (List.range ops.size).filter (fun i => !listed.getD i false) = [] := List.length_eq_zero_iff.1 (by omega)
    have hall : ∀ i, i < ops.size → listed.getD i false = true := fun i hi => by
      cases hv : listed.getD i false with
      | true => rfl
      | false =>
        have : i ∈ (List.range ops.size).filter (fun i => !listed.getD i false) := by rw [List.mem_filter]; exact ⟨List.mem_range.2 hi, by simp only [hv]; rfl⟩
        rw [hnil] at this; cases this
    refine ⟨?_, done listed g a w hall hR⟩
    rw [List.eq_nil_iff_forall_not_mem]
    intro i hi
    rw [mem_ready] at hi
    obtain ⟨h1, o, ho, _⟩ := hi
    have hlt := (Array.getElem?_eq_some_iff.1 ho).1
    rw [getDs listed i hsz hlt, hall i hlt] at h1
    cases h1
  | succ fuel ih =>
    intro listed g a w hsz hcnt hcl hR
    refine ⟨fun hr => done listed g a w (fun i hi => allDone listed hsz hr (i + 1) i (by omega) hi) hR, fun i hi => ?_⟩
    rw [mem_ready] at hi
    obtain ⟨h1, o, ho, hready⟩ := hi
    have hlt := (Array.getElem?_eq_some_iff.1 ho).1
    rw [getDs listed i hsz hlt] at h1
    obtain ⟨c, hc⟩ : ∃ c, cs[i]? = some c := ⟨cs[i]'(by omega), List.getElem?_eq_getElem (by omega)⟩
    obtain ⟨o', frz, m1, m2, m3, m4, m5⟩ := hS.comp.get.2 i c hc
    have : o' = o := by
      rw [Array.getElem?_toList, ho] at m1
      exact (Option.some.inj m1).symm
    subst this
    obtain ⟨e, n1, n2, n3, n4, n5, n6⟩ := next_eff hS hcl (fun q hq => by
      rcases Nat.lt_or_ge q ops.size with h | h
      · exact h
      · rw [Array.getD_eq_getD_getElem?, Array.getElem?_eq_none (by omega)] at hq; cases hq) hc ho h1 hready
    refine op_step hB hCall ho m2 m3 m4 m5 hR n4 n3 n2 (fun g' a' w' hR' => ?_)
    have hS' : ∀ q, (listed.setIfInBounds i true).getD q false = (listed.getD q false || q == i) := fun q => by
      by_cases e : i = q
      · subst e
        simp [show i < listed.size by omega]
      · rw [getD_set_ne false e]
        have : (q == i) = false := by simp; omega
        rw [this, Bool.or_false]
    have hSf : (fun q => (listed.setIfInBounds i true).getD q false) = fun q => listed.getD q false || q == i := funext hS'
    refine ih (listed.setIfInBounds i true) g' a' w' (by simp [hsz]) ?_ ?_ ?_
    · -- one less
      have hmem : i ∈ (List.range ops.size).filter fun i => !listed.getD i false := by rw [List.mem_filter]; exact ⟨List.mem_range.2 hlt, by simp only [h1]; rfl⟩
      have hsub : ((List.range ops.size).filter fun q => !(listed.setIfInBounds i true).getD q false) = ((List.range ops.size).filter fun q => !listed.getD q false).filter fun q => !(q == i) := by
        rw [List.filter_filter]
        congr 1
        funext q
        rw [hS' q]
        cases listed.getD q false <;> cases (q == i) <;> rfl
      rw [hsub]
      have hlt2 : (((List.range ops.size).filter fun q => !listed.getD q false).filter fun q => !(q == i)).length < ((List.range ops.size).filter fun q => !listed.getD q false).length := by
        rw [List.length_filter_lt_length_iff_exists]
        exact ⟨i, hmem, by simp⟩
      omega
    · rw [hSf]
      intro q oq hq hoq e' he' hb
      simp only [Bool.or_eq_true, beq_iff_eq] at hq ⊢
      rcases hq with hq | rfl
      · exact .inl (hcl q oq hq hoq e' he' hb)
      · rw [ho] at hoq
        cases hoq
        exact .inl (hready e' he' hb)
    · rw [hSf, n5, n6]
      exact hR'

theorem region_any (hB : BodyOk P tab) (hCall : CallOk P tab call) (hm : P.follows .mixedOrders = true) {id : Nat} {ops : Array Oper} {nt : Nat} {cs : List CO} (hc : CompOps P tab nt ops ops.toList cs) (hpre : ∀ i c, cs[i]? = some c → c.pre = (presOf ops.toList []).getD i 0)
    (hsl : slotsOk cs 0 = true) (hed : edgesOk ops.toList 0 = true) {s s' : St} (hr : runRegion call true cs s = some s') {g : Gh} {a : Act} {w : World} (hR : Rel tab nt g s.get s.obj a w)
    {Q : Exit → Act → World → Prop} (hQ : ∀ g' a' w', Go1 tab nt g s.obj w g' s'.get s'.obj a' w' → Q .normal a' w') : (Code.region id ops true).wp P Q a w := by
  unfold runRegion at hr
  simp only [if_true] at hr
  split at hr
  · rename_i s2 es hrun
    split at hr
    · rename_i hrace
      simp only [Option.some.injEq] at hr
      subst hr
      have hobj : (⟨s.tmps, s.heap ++ List.replicate (countMk cs) none⟩ : St).obj = s.obj := by
        funext q
        unfold St.obj
        simp only
        rcases Nat.lt_or_ge q s.heap.length with h | h
        · rw [List.getElem?_append_left h]
        · rw [List.getElem?_append_right h, List.getElem?_eq_none h, List.getElem?_replicate]
          split <;> rfl
      have hfree : ∀ q, s.obj (s.heap.length + q) = none := fun q => by
        unfold St.obj
        rw [List.getElem?_eq_none (by omega)]; rfl
      obtain ⟨f1, f2, f3, f4⟩ := run_facts (N := countMk cs) cs 0 _ es hrun ⟨by simp, fun q _ => by rw [hobj]; exact hfree q⟩ (Nat.zero_add _)
      rw [hobj] at f1 f3
      have hS : Setup P tab call nt ops cs es s.heap.length s.get s.obj := ⟨hc, hpre, hsl, hed, hrace, f1, hfree⟩
      refine wp_region_any hm ?_
      have hR' : Rel tab nt g s.get s.obj a w.drew := ⟨fun t => (hR.tmp t).drew, hR.size, hR.defers, hR.heap.drew⟩
      have hempty : ∀ {β : Type} (F : Eff → (Nat → β) → (Nat → β)) (x : Nat → β) (es : List Eff) (i : Nat), ap F es (fun i => (Array.replicate ops.size false).getD i false) i x = x := by
        intro β F x es
        induction es with
        | nil => intro i; rfl
        | cons e es ih =>
          intro i
          have : (Array.replicate ops.size false).getD i false = false := by
            rw [Array.getD_eq_getD_getElem?, Array.getElem?_replicate]
            split <;> rfl
          simp only [ap, this, Bool.false_eq_true, if_false]
          exact ih (i + 1)
      have hno : ∀ i, (Array.replicate ops.size false).getD i false = false := fun i => by
        rw [Array.getD_eq_getD_getElem?, Array.getElem?_replicate]
        split <;> rfl
      refine any_ops hB hCall hS (g0 := g) (ob0 := s.obj) (w0 := w) (fun g' a' w' h => hQ g' a' w' ?_) ops.size _ g a w.drew (by simp) ?_ ?_ ?_
      · rw [f2, f3]; exact h
      · exact Nat.le_trans (List.length_filter_le _ _) (by simp)
      · intro i o hi
        simp only [hno] at hi
        cases hi
      · show Go1 tab nt g s.obj w g (ap Eff.getF _ _ _ _) (ap Eff.objF _ _ _ _) a w.drew
        rw [hempty, hempty]
        exact ⟨hR', (Post.drew hR.heap).evo⟩
    · cases hr
  · cases hr

end
end Ab

/-
  What is done at the heads of loops.
-/
namespace Ab
open Go
open Go.RowKit (Below)
set_option linter.unusedVariables false

section
variable {tab : Tab}

theorem look_keep (s : St) : ∀ (l : List Nat) (t : Nat), look (keepTmps s l) t = s.get t ∨ look (keepTmps s l) t = .bad
  | [], t => .inr rfl
  | x :: r, t => by
    simp only [keepTmps, look_cons]
    split
    · rename_i e; subst e; exact .inl rfl
    · exact look_keep s r t

theorem Go1.weaken {nt : Nat} {g0 : Gh} {ob0 : Nat → Option Obj} {w0 : World} {g : Gh} {get get' : Nat → V} {obj : Nat → Option Obj} {a : Act} {w : World} (h : Go1 tab nt g0 ob0 w0 g get obj a w) (hg : ∀ t, get' t = get t ∨ get' t = .bad) : Go1 tab nt g0 ob0 w0 g get' obj a w :=
  ⟨⟨fun t => by
    rcases hg t with e | e
    · rw [e]; exact h.rel.tmp t
    · rw [e]; simp only [VRel], h.rel.size, h.rel.defers, h.rel.heap⟩, h.evo⟩

theorem obj_push {tm tm' : List (Nat × V)} (h : List (Option Obj)) (o : Obj) : (⟨tm, h ++ [some o]⟩ : St).obj = updO (⟨tm', h⟩ : St).obj h.length (some o) := by
  funext j
  unfold St.obj updO
  simp only
  rcases Nat.lt_trichotomy j h.length with hj | hj | hj
  · rw [List.getElem?_append_left hj, if_neg (by omega)]
  · subst hj; simp
  · rw [List.getElem?_eq_none (by simp; omega), if_neg (by omega), List.getElem?_eq_none (by omega)]

theorem own_empty {g : Gh} {obj : Nat → Option Obj} {w : World} {id sz : Nat} (h : obj id = some (.tok 0 sz)) : VRel tab g obj w (.own id 0 sz []) (.slice none 0 0) := by
  refine VRel_own ?_ h ⟨none, 0, rfl, .inl rfl⟩
  simp only [DRel]
  exact ⟨none, 0, rfl, Nat.le_refl _, by simp, by simp⟩

theorem ownSlot_ok {nt : Nat} {g0 : Gh} {ob0 : Nat → Option Obj} {w0 : World} {g : Gh} {s : St} {a : Act} {w : World} (h : Go1 tab nt g0 ob0 w0 g s.get s.obj a w) (t : Nat) : ∃ g', Go1 tab nt g0 ob0 w0 g' (ownSlot s t).get (ownSlot s t).obj a w := by
  unfold ownSlot
  cases hv : s.get t with
  | nil sz =>
    simp only
    have hf : s.obj s.heap.length = none := by unfold St.obj; rw [List.getElem?_eq_none (Nat.le_refl _)]; rfl
    have hp := app_same (tab := tab) h.rel.heap (id := s.heap.length) (ver := 0) (sz := sz) (.inl hf) 0 0 0 (.inr rfl)
    have hobj : (⟨(t, .own s.heap.length 0 sz []) :: s.tmps, s.heap ++ [some (.tok 0 sz)]⟩ : St).obj = updO s.obj s.heap.length (some (.tok 0 sz)) := obj_push (tm' := s.tmps) s.heap _
    refine ⟨_, ⟨fun t' => ?_, h.rel.size, h.rel.defers, by rw [hobj]; exact hp.heap⟩, by rw [hobj]; exact h.evo.trans hp.evo⟩
    rw [hobj]
    simp only [St.get, look_cons]
    split
    · rename_i e
      subst e
      have := h.rel.tmp t
      rw [hv] at this
      simp only [VRel] at this
      rw [this]
      exact own_empty (updO_same _ _ _)
    · exact hp.vals _ _ (h.rel.tmp t')
  | _ => exact ⟨g, h⟩

/-- a box's cells are told in another way. -/
theorem post_retell {g : Gh} {obj : Nat → Option Obj} {w : World} (hH : HRel tab g obj w) {id : Nat} {cs cs' : List V} (ho : obj id = some (.box cs)) (hl : cs'.length = cs.length) (hc : ∀ us, CList tab g obj w cs us → CList tab g obj w cs' us) :
    Post tab g obj w g (updO obj id (some (.box cs'))) w := by
  have hat : updP g.at_ id (g.at_ id) = g.at_ := by funext j; unfold updP; split <;> simp_all
  have howns : ∀ b q, owns ⟨updP g.at_ id (g.at_ id), g.im⟩ (updO obj id (some (.box cs'))) id b q → owns g obj id b q := fun b q h => by
    unfold owns at *
    simp only [updO_same, updP_same] at h
    rw [ho]; exact h
  obtain ⟨h1, h2, h3⟩ := step1 (w' := w) hH id (.box cs') (g.at_ id) g.im rfl rfl rfl (Nat.le_refl _) (fun _ _ => .refl _) (fun b q h => h) (fun b q h => .inl h)
    (fun b q h => ⟨.inl (howns b q h), hH.imm id b q (howns b q h)⟩)
    (fun b q h hm => hH.frz id b q (howns b q h) (fun kvs e => by rw [ho] at e; cases e))
    (.box (.inl ⟨cs, ho⟩) (.inl ⟨cs', rfl⟩) _)
    (fun hv => by
      obtain ⟨k1, us, k2, k3⟩ := hH.ob id _ ho
      exact ⟨by omega, us, (hc us k2).of_vals hv, k3⟩)
  rw [hat] at h1 h2 h3
  exact ⟨h1, h2, h3⟩

theorem CList.setv {g : Gh} {obj : Nat → Option Obj} {w : World} : ∀ {cs : List V} {us : List Value} {i : Nat} {x : V} {u : Value}, CList tab g obj w cs us → us[i]? = some u → VRel tab g obj w x u → CList tab g obj w (cs.set i x) us
  | [], [], i, x, u, h, hi, hx => by simpa using h
  | c :: cs, v :: us, 0, x, u, h, hi, hx => by
    simp only [List.getElem?_cons_zero, Option.some.injEq] at hi
    subst hi
    simp only [CList] at h
    simp only [List.set_cons_zero, CList]
    exact ⟨hx, h.2.1, h.2.2⟩
  | c :: cs, v :: us, i + 1, x, u, h, hi, hx => by
    simp only [CList] at h
    simp only [List.set_cons_succ, CList]
    exact ⟨h.1, h.2.1, CList.setv h.2.2 (by simpa using hi) hx⟩
  | [], _ :: _, _, _, _, h, _, _ => by simp only [CList] at h
  | _ :: _, [], _, _, _, h, _, _ => by simp only [CList] at h

theorem ownBox_ok {nt : Nat} {g0 : Gh} {ob0 : Nat → Option Obj} {w0 : World} {g : Gh} {s : St} {a : Act} {w : World} (h : Go1 tab nt g0 ob0 w0 g s.get s.obj a w) (t : Nat × Nat) : ∃ g', Go1 tab nt g0 ob0 w0 g' (ownBox s t).get (ownBox s t).obj a w := by
  unfold ownBox
  cases hv : s.get t.1 with
  | ptr id off =>
    simp only
    cases ho : s.obj id with
    | none => exact ⟨g, h⟩
    | some ob =>
      cases ob with
      | box cs =>
        simp only
        cases hc : cs[off + t.2]? with
        | none => exact ⟨g, h⟩
        | some cv =>
          cases cv with
          | nil sz =>
            simp only
            have hf : s.obj s.heap.length = none := by unfold St.obj; rw [List.getElem?_eq_none (Nat.le_refl _)]; rfl
            have hlt : id < s.heap.length := obj_lt (by rw [ho]; rfl)
            have hp := app_same (tab := tab) h.rel.heap (id := s.heap.length) (ver := 0) (sz := sz) (.inl hf) 0 0 0 (.inr rfl)
            have ho' : updO s.obj s.heap.length (some (.tok 0 sz)) id = some (.box cs) := by rw [updO_ne _ _ (by omega)]; exact ho
            have hq := post_retell (tab := tab) hp.heap (cs' := cs.set (off + t.2) (.own s.heap.length 0 sz [])) ho' (by simp) (fun us hus => by
              obtain ⟨u, k1, k2, k3⟩ := hus.get hc
              refine hus.setv k1 ?_
              simp only [VRel] at k2
              rw [k2]
              exact own_empty (updO_same _ _ _))
            have hobj : (⟨s.tmps, s.heap.set id (some (.box (cs.set (off + t.2) (.own s.heap.length 0 sz [])))) ++ [some (.tok 0 sz)]⟩ : St).obj = updO (updO s.obj s.heap.length (some (.tok 0 sz))) id (some (.box (cs.set (off + t.2) (.own s.heap.length 0 sz [])))) := by
              rw [obj_push (tm' := s.tmps), obj_set (tm' := s.tmps) hlt, List.length_set]
              funext j
              unfold updO
              split
              · split
                · omega
                · rfl
              · rfl
            refine ⟨_, ⟨fun t' => ?_, h.rel.size, h.rel.defers, by rw [hobj]; exact hq.heap⟩, by rw [hobj]; exact (h.evo.trans hp.evo).trans hq.evo⟩
            rw [hobj]
            exact hq.vals _ _ (hp.vals _ _ (h.rel.tmp t'))
          | _ => exact ⟨g, h⟩
      | _ => exact ⟨g, h⟩
  | _ => exact ⟨g, h⟩

theorem datC_rel {g : Gh} {obj : Nat → Option Obj} {w : World} {x : V} {v : Value} (h : VRel tab g obj w x v) : VRel tab g obj w (datC x) v := by
  cases x with
  | nil sz =>
    simp only [datC, VRel, DRel] at *
    subst h
    exact ⟨none, 0, rfl, Nat.le_refl _, by simp, .inl trivial⟩
  | own id ver sz xs => simp only [datC, VRel] at *; exact h.1
  | _ => exact h

theorem datV_rel {g : Gh} {obj : Nat → Option Obj} {w : World} {x : V} {v : Value} (h : VRel tab g obj w x v) : VRel tab g obj w (datV x) v := by
  cases x with
  | agg cs =>
    simp only [datV, VRel] at *
    obtain ⟨vs, h1, h2⟩ := h
    refine ⟨vs, h1, ?_⟩
    have : ∀ (cs : List V) (vs : List Value), CList tab g obj w cs vs → CList tab g obj w (cs.map datC) vs := by
      intro cs
      induction cs with
      | nil => intro vs h; cases vs with | nil => simp [CList] | cons => simp only [CList] at h
      | cons c cs ih =>
        intro vs h
        cases vs with
        | nil => simp only [CList] at h
        | cons u us => simp only [List.map_cons, CList] at *; exact ⟨datC_rel h.1, h.2.1, ih us h.2.2⟩
    exact this cs vs h2
  | _ => exact datC_rel h

theorem dats_ok {nt : Nat} {g0 : Gh} {ob0 : Nat → Option Obj} {w0 : World} (ann : Ann) {g : Gh} {s : St} {a : Act} {w : World} (h : Go1 tab nt g0 ob0 w0 g s.get s.obj a w) : Go1 tab nt g0 ob0 w0 g (dats ann s).get (dats ann s).obj a w := by
  have h1 : ∀ (l : List Nat) (s : St), Go1 tab nt g0 ob0 w0 g s.get s.obj a w → Go1 tab nt g0 ob0 w0 g (l.foldl datSlot s).get (l.foldl datSlot s).obj a w := by
    intro l
    induction l with
    | nil => intro s h; exact h
    | cons t l ih =>
      intro s h
      refine ih _ ⟨⟨fun t' => ?_, h.rel.size, h.rel.defers, h.rel.heap⟩, h.evo⟩
      show VRel tab g s.obj w (look ((t, datV (s.get t)) :: s.tmps) t') _
      rw [look_cons]
      split
      · rename_i e; subst e; exact datV_rel (h.rel.tmp t)
      · exact h.rel.tmp t'
  have h2 : ∀ (l : List (Nat × Nat)) (s : St), Go1 tab nt g0 ob0 w0 g s.get s.obj a w → Go1 tab nt g0 ob0 w0 g (l.foldl datBox s).get (l.foldl datBox s).obj a w := by
    intro l
    induction l with
    | nil => intro s h; exact h
    | cons t l ih =>
      intro s h
      refine ih _ ?_
      unfold datBox
      split
      · rename_i id off hg
        split
        · rename_i cs ho
          split
          · rename_i v hv
            have hlt : id < s.heap.length := obj_lt (by rw [ho]; rfl)
            have hq := post_retell (tab := tab) h.rel.heap (cs' := cs.set (off + t.2) (datC v)) ho (by simp) (fun us hus => by
              obtain ⟨u, k1, k2, k3⟩ := hus.get hv
              exact hus.setv k1 (datC_rel k2))
            have hobj : (⟨s.tmps, s.heap.set id (some (.box (cs.set (off + t.2) (datC v))))⟩ : St).obj = updO s.obj id (some (.box (cs.set (off + t.2) (datC v)))) := obj_set (tm' := s.tmps) hlt
            refine ⟨⟨fun t' => ?_, h.rel.size, h.rel.defers, by rw [hobj]; exact hq.heap⟩, by rw [hobj]; exact h.evo.trans hq.evo⟩
            rw [hobj]
            exact hq.vals _ _ (h.rel.tmp t')
          · exact h
        · exact h
      · exact h
  exact h2 _ _ (h1 _ _ h)

theorem enter_ok {nt : Nat} {g0 : Gh} {ob0 : Nat → Option Obj} {w0 : World} (ann : Ann) {g : Gh} {s : St} {a : Act} {w : World} (h : Go1 tab nt g0 ob0 w0 g s.get s.obj a w) : ∃ g', Go1 tab nt g0 ob0 w0 g' (enter ann s).get (enter ann s).obj a w := by
  have h1 : ∀ (l : List Nat) (s : St) (g : Gh), Go1 tab nt g0 ob0 w0 g s.get s.obj a w → ∃ g', Go1 tab nt g0 ob0 w0 g' (l.foldl ownSlot s).get (l.foldl ownSlot s).obj a w := by
    intro l
    induction l with
    | nil => intro s g h; exact ⟨g, h⟩
    | cons t l ih => intro s g h; obtain ⟨g', h'⟩ := ownSlot_ok h t; exact ih _ g' h'
  have h2 : ∀ (l : List (Nat × Nat)) (s : St) (g : Gh), Go1 tab nt g0 ob0 w0 g s.get s.obj a w → ∃ g', Go1 tab nt g0 ob0 w0 g' (l.foldl ownBox s).get (l.foldl ownBox s).obj a w := by
    intro l
    induction l with
    | nil => intro s g h; exact ⟨g, h⟩
    | cons t l ih => intro s g h; obtain ⟨g', h'⟩ := ownBox_ok h t; exact ih _ g' h'
  obtain ⟨g1, k1⟩ := h1 ann.own s g h
  obtain ⟨g2, k2⟩ := h2 ann.ownB _ g1 k1
  exact ⟨g2, (dats_ok ann k2).weaken fun t => look_keep _ _ t⟩

end
end Ab

/-
  What is done at the ends of rounds: what lies beyond is forgotten, versions begin anew.
-/
namespace Ab
open Go
open Go.RowKit (Below)
set_option linter.unusedVariables false

section
variable {tab : Tab} {g : Gh} {obj obj' : Nat → Option Obj} {w : World}

mutual
theorem VRel.under {n : Nat} (ho : ∀ i, i < n → obj' i = obj i) : ∀ (x : V) (v : Value), V.under n x = true → VRel tab g obj w x v → VRel tab g obj' w x v
  | .d x, v, _, h => by simp only [VRel] at *; exact h
  | .nil _, v, _, h => by simp only [VRel] at *; exact h
  | .own id ver sz xs, v, hu, h => by
    simp only [V.under, decide_eq_true_eq] at hu
    simp only [VRel] at *
    rw [ho id hu]; exact h
  | .arr id ver off len, v, hu, h => by
    simp only [V.under, decide_eq_true_eq] at hu
    simp only [VRel] at *
    rw [ho id hu]; exact h
  | .ptr id off, v, hu, h => by
    simp only [V.under, decide_eq_true_eq] at hu
    simp only [VRel] at *
    rw [ho id hu]; exact h
  | .pm id ver idx off, v, hu, h => by
    simp only [V.under, decide_eq_true_eq] at hu
    simp only [VRel] at *
    rw [ho id hu]; exact h
  | .map id, v, hu, h => by
    simp only [V.under, decide_eq_true_eq] at hu
    simp only [VRel] at *
    rw [ho id hu]; exact h
  | .fn key a c, v, hu, h => by
    simp only [V.under, Bool.and_eq_true] at hu
    simp only [VRel] at *
    obtain ⟨fid, fs, cs, h1, h2, h3, h4⟩ := h
    exact ⟨fid, fs, cs, h1, h2, VList.under ho a fs hu.1 h3, VList.under ho c cs hu.2 h4⟩
  | .agg cs, v, hu, h => by
    simp only [V.under] at hu
    simp only [VRel] at *
    obtain ⟨vs, h1, h2⟩ := h
    exact ⟨vs, h1, CList.under ho cs vs hu h2⟩
  | .tup ws, v, hu, h => by
    simp only [V.under] at hu
    simp only [VRel] at *
    obtain ⟨vs, h1, h2⟩ := h
    exact ⟨vs, h1, VList.under ho ws vs hu h2⟩
  | .bad, v, _, _ => by simp only [VRel]
theorem VList.under {n : Nat} (ho : ∀ i, i < n → obj' i = obj i) : ∀ (xs : List V) (vs : List Value), V.underAll n xs = true → VList tab g obj w xs vs → VList tab g obj' w xs vs
  | [], [], _, _ => by simp only [VList]
  | x :: xs, v :: vs, hu, h => by
    simp only [V.underAll, Bool.and_eq_true] at hu
    simp only [VList] at *
    exact ⟨VRel.under ho x v hu.1 h.1, VList.under ho xs vs hu.2 h.2⟩
  | [], _ :: _, _, h => by simp only [VList] at h
  | _ :: _, [], _, h => by simp only [VList] at h
theorem CList.under {n : Nat} (ho : ∀ i, i < n → obj' i = obj i) : ∀ (xs : List V) (vs : List Value), V.underAll n xs = true → CList tab g obj w xs vs → CList tab g obj' w xs vs
  | [], [], _, _ => by simp only [CList]
  | x :: xs, v :: vs, hu, h => by
    simp only [V.underAll, Bool.and_eq_true] at hu
    simp only [CList] at *
    exact ⟨VRel.under ho x v hu.1 h.1, h.2.1, CList.under ho xs vs hu.2 h.2.2⟩
  | [], _ :: _, _, h => by simp only [CList] at h
  | _ :: _, [], _, h => by simp only [CList] at h
end

theorem EList.under {n : Nat} (ho : ∀ i, i < n → obj' i = obj i) : ∀ (kvs : List (List D × V)) (es : List MapEntry), underKvs n kvs = true → EList tab g obj w kvs es → EList tab g obj' w kvs es
  | [], [], _, _ => by simp only [EList]
  | (k, x) :: r, e :: es, hu, h => by
    simp only [underKvs, Bool.and_eq_true] at hu
    simp only [EList] at *
    exact ⟨h.1, VRel.under ho _ _ hu.1 h.2.1, EList.under ho r es hu.2 h.2.2⟩
  | [], _ :: _, _, h => by simp only [EList] at h
  | (_, _) :: _, [], _, h => by simp only [EList] at h

/-- a heap with fewer objects, or objects told otherwise. -/
theorem hrel_sub (hH : HRel tab g obj w) (hown : ∀ i b o, owns g obj' i b o → owns g obj i b o) (hmap : ∀ i, (∀ kvs, obj' i ≠ some (.map kvs)) → ∀ b o, owns g obj' i b o → ∀ kvs, obj i ≠ some (.map kvs)) (hO : ∀ i o, obj' i = some o → ORel tab g obj' w (g.at_ i) o) : HRel tab g obj' w where
  ob := hO
  imm i b o h := hH.imm i b o (hown i b o h)
  one i j b o h h' := hH.one i j b o (hown i b o h) (hown j b o h')
  old i b o h := hH.old i b o (hown i b o h)
  frz i b o h hm := hH.frz i b o (hown i b o h) (hmap i hm b o h)
  imOld := hH.imOld

theorem evo_sub {g0 : Gh} {ob0 : Nat → Option Obj} {w0 : World} (h : Evo g0 ob0 w0 g obj w) (hown : ∀ i b o, owns g obj' i b o → owns g obj i b o) (hk : KEvo g0 ob0 g obj') : Evo g0 ob0 w0 g obj' w :=
  ⟨h.os, h.tape, h.output, h.size, h.blk, h.im, h.imNew, fun b o ⟨i, hi⟩ => h.ownNew b o ⟨i, hown i b o hi⟩, hk⟩

theorem kevo_some {g0 g : Gh} {ob0 obj : Nat → Option Obj} (h : KEvo g0 ob0 g obj) {i : Nat} (hi : (ob0 i).isSome = true) : (obj i).isSome = true := by
  have := h i
  cases ho : ob0 i with
  | none => rw [ho] at hi; cases hi
  | some o =>
    rw [ho] at this
    cases o with
    | box cs => rcases this.1 with ⟨c, e⟩ | ⟨c, e⟩ <;> rw [e] <;> rfl
    | cst ds => rcases this.1 with ⟨c, e⟩ | ⟨c, e⟩ <;> rw [e] <;> rfl
    | tok v sz => obtain ⟨v', sz', e⟩ := this; rw [e]; rfl
    | arr v sz xs => obtain ⟨v', xs', e, _⟩ := this; rw [e]; rfl
    | map kvs => obtain ⟨⟨k', e⟩, _⟩ := this; rw [e]; rfl

theorem obj_take {tm tm' : List (Nat × V)} {h : List (Option Obj)} {n i : Nat} : (⟨tm, h.take n⟩ : St).obj i = if i < n then (⟨tm', h⟩ : St).obj i else none := by
  unfold St.obj
  simp only
  rw [List.getElem?_take]
  split <;> rfl

theorem cut_ok {nt : Nat} {g0 : Gh} {ob0 : Nat → Option Obj} {w0 : World} {s : St} {a : Act} {n : Nat} {tm : List (Nat × V)} (h : Go1 tab nt g0 ob0 w0 g (look tm) s.obj a w) (h0 : ∀ i, (ob0 i).isSome = true → i < n) (h1 : underTmps n tm = true) (h2 : (s.heap.take n).all (Obj.under n) = true) :
    Go1 tab nt g0 ob0 w0 g (look tm) (⟨tm, s.heap.take n⟩ : St).obj a w := by
  have hob : ∀ i, (⟨tm, s.heap.take n⟩ : St).obj i = if i < n then s.obj i else none := fun i => obj_take
  have ho : ∀ i, i < n → (⟨tm, s.heap.take n⟩ : St).obj i = s.obj i := fun i hi => by rw [hob, if_pos hi]
  have hsome : ∀ i o, (⟨tm, s.heap.take n⟩ : St).obj i = some o → i < n ∧ s.obj i = some o := fun i o h => by
    rw [hob] at h
    split at h
    · rename_i hi; exact ⟨hi, h⟩
    · cases h
  have hown : ∀ i b o, owns g (⟨tm, s.heap.take n⟩ : St).obj i b o → owns g s.obj i b o := fun i b o h => by
    rcases Nat.lt_or_ge i n with hi | hi
    · unfold owns at h ⊢; rw [ho i hi] at h; exact h
    · unfold owns at h; rw [hob, if_neg (by omega)] at h; exact h.elim
  have hund : ∀ i o, (⟨tm, s.heap.take n⟩ : St).obj i = some o → Obj.under n (some o) = true := fun i o h => by
    unfold St.obj at h
    simp only at h
    cases hg : (s.heap.take n)[i]? with
    | none => rw [hg] at h; cases h
    | some x =>
      rw [hg] at h
      simp only [Option.join_some] at h
      subst h
      exact List.all_eq_true.1 h2 _ (List.mem_of_getElem? hg)
  have hlook : ∀ (l : List (Nat × V)) t, underTmps n l = true → V.under n (look l t) = true := by
    intro l
    induction l with
    | nil => intro t _; rfl
    | cons p l ih =>
      obtain ⟨i, v⟩ := p
      intro t hu
      simp only [underTmps, Bool.and_eq_true] at hu
      rw [look_cons]
      split
      · exact hu.1
      · exact ih t hu.2
  refine ⟨⟨fun t => VRel.under ho _ _ (hlook tm t h1) (h.rel.tmp t), h.rel.size, h.rel.defers, ?_⟩, evo_sub h.evo hown (fun i => ?_)⟩
  rotate_left
  · have := h.evo.kevo i
    cases hb : ob0 i with
    | none => trivial
    | some o =>
      rw [hb] at this
      rw [ho i (h0 i (by rw [hb]; rfl))]
      exact this
  refine hrel_sub h.rel.heap hown (fun i hm b o hb kvs e => ?_) (fun i o hi => ?_)
  · rcases Nat.lt_or_ge i n with hi | hi
    · exact hm kvs (by rw [ho i hi]; exact e)
    · unfold owns at hb; rw [hob, if_neg (by omega)] at hb; exact hb
  · obtain ⟨hin, hio⟩ := hsome i o hi
    have hr := h.rel.heap.ob i o hio
    have hu := hund i o hi
    cases o with
    | box cs =>
      obtain ⟨k1, us, k2, k3⟩ := hr
      exact ⟨k1, us, CList.under ho cs us hu k2, k3⟩
    | cst ds => exact hr
    | tok v sz => exact hr
    | arr v sz xs =>
      obtain ⟨k1, k2, k3, k4⟩ := hr
      refine ⟨k1, k2, k3, fun j r q x h5 h6 => ?_⟩
      obtain ⟨u, m1, m2, m3⟩ := k4 j r q x h5 h6
      refine ⟨u, m1, VRel.under ho x u ?_ m2, m3⟩
      have all1 : ∀ (xs : List V) (x : V), V.underAll n xs = true → x ∈ xs → V.under n x = true := by
        intro xs x
        induction xs with
        | nil => intro _ h; cases h
        | cons y xs ih =>
          intro hu hx
          simp only [V.underAll, Bool.and_eq_true] at hu
          rcases List.mem_cons.1 hx with rfl | hx
          · exact hu.1
          · exact ih hu.2 hx
      have all2 : ∀ (xs : List (List V)) (r : List V), underRows n xs = true → r ∈ xs → V.underAll n r = true := by
        intro xs r
        induction xs with
        | nil => intro _ h; cases h
        | cons y xs ih =>
          intro hu hx
          simp only [underRows, Bool.and_eq_true] at hu
          rcases List.mem_cons.1 hx with rfl | hx
          · exact hu.1
          · exact ih hu.2 hx
      exact all1 r x (all2 xs r hu (List.mem_of_getElem? h5)) (List.mem_of_getElem? h6)
    | map kvs =>
      obtain ⟨es, cl, k1, k2⟩ := hr
      exact ⟨es, cl, k1, EList.under ho kvs _ hu k2⟩

/-! ### versions -/

mutual
theorem VRel.fine (h1 : ∀ i, isBox (obj i) → isBox (obj' i)) (h2 : ∀ i kvs, obj i = some (.map kvs) → ∃ kvs', obj' i = some (.map kvs')) : ∀ (x : V) (v : Value), V.fine x = true → VRel tab g obj w x v → VRel tab g obj' w x v
  | .d x, v, _, h => by simp only [VRel] at *; exact h
  | .nil _, v, _, h => by simp only [VRel] at *; exact h
  | .own id ver sz xs, v, hu, h => by simp [V.fine] at hu
  | .arr id ver off len, v, hu, h => by simp [V.fine] at hu
  | .ptr id off, v, hu, h => by
    simp only [VRel] at *
    exact ⟨h1 id h.1, h.2⟩
  | .pm id ver idx off, v, hu, h => by simp [V.fine] at hu
  | .map id, v, hu, h => by
    simp only [VRel] at *
    obtain ⟨⟨kvs, hk⟩, hv⟩ := h
    exact ⟨h2 id kvs hk, hv⟩
  | .fn key a c, v, hu, h => by
    simp only [V.fine, Bool.and_eq_true] at hu
    simp only [VRel] at *
    obtain ⟨fid, fs, cs, k1, k2, k3, k4⟩ := h
    exact ⟨fid, fs, cs, k1, k2, VList.fine h1 h2 a fs hu.1 k3, VList.fine h1 h2 c cs hu.2 k4⟩
  | .agg cs, v, hu, h => by simp [V.fine] at hu
  | .tup ws, v, hu, h => by simp [V.fine] at hu
  | .bad, v, _, _ => by simp only [VRel]
theorem VList.fine (h1 : ∀ i, isBox (obj i) → isBox (obj' i)) (h2 : ∀ i kvs, obj i = some (.map kvs) → ∃ kvs', obj' i = some (.map kvs')) : ∀ (xs : List V) (vs : List Value), V.fineAll xs = true → VList tab g obj w xs vs → VList tab g obj' w xs vs
  | [], [], _, _ => by simp only [VList]
  | x :: xs, v :: vs, hu, h => by
    simp only [V.fineAll, Bool.and_eq_true] at hu
    simp only [VList] at *
    exact ⟨VRel.fine h1 h2 x v hu.1 h.1, VList.fine h1 h2 xs vs hu.2 h.2⟩
  | [], _ :: _, _, h => by simp only [VList] at h
  | _ :: _, [], _, h => by simp only [VList] at h
end

theorem norm_ok {nt : Nat} {g0 : Gh} {ob0 : Nat → Option Obj} {w0 : World} {a : Act} {tm tm' : List (Nat × V)} {h : List (Option Obj)} (hR : Go1 tab nt g0 ob0 w0 g (look tm) (⟨tm, h⟩ : St).obj a w) :
    Go1 tab nt g0 ob0 w0 g (look (normTmps h tm)) (⟨tm', h.map (normObj h)⟩ : St).obj a w := by
  generalize hob : (⟨tm, h⟩ : St).obj = obj at hR
  have hobj : ∀ i, (h[i]?).join = obj i := fun i => by rw [← hob]; rfl
  have hob' : ∀ i, (⟨tm', h.map (normObj h)⟩ : St).obj i = normObj h (obj i) := fun i => by
    rw [← hobj]
    unfold St.obj
    simp only [List.getElem?_map]
    cases h[i]? <;> rfl
  generalize (⟨tm', h.map (normObj h)⟩ : St).obj = obj' at hob'
  have b1 : ∀ i, isBox (obj i) → isBox (obj' i) := fun i hi => by
    rcases hi with ⟨cs, hi⟩ | ⟨ds, hi⟩
    · exact .inl ⟨_, by rw [hob', hi]; rfl⟩
    · exact .inr ⟨_, by rw [hob', hi]; rfl⟩
  have b2 : ∀ i kvs, obj i = some (.map kvs) → ∃ kvs', obj' i = some (.map kvs') := fun i kvs hi => ⟨_, by rw [hob', hi]; rfl⟩
  have nc : ∀ x v, VRel tab g obj w x v → VRel tab g obj' w (normC h x) v := by
    intro x v hx
    have rest : (∀ a b c d, x ≠ .own a b c d) → (∀ a b c d, x ≠ .arr a b c d) → VRel tab g obj' w (if x.fine then x else .bad) v := fun _ _ => by
      split
      · rename_i hf; exact VRel.fine b1 b2 x v hf hx
      · simp only [VRel]
    cases x with
    | own id ver sz xs =>
      simp only [VRel] at hx
      obtain ⟨k1, ver', sz', k2, k3, k4⟩ := hx
      simp only [normC, hobj, k2]
      split
      · rename_i e
        simp only [VRel]
        exact ⟨k1, 0, sz', by rw [hob', k2]; rfl, Nat.le_refl _, fun _ => k4 e⟩
      · simp only [VRel]; exact k1
    | arr id ver off len =>
      simp only [VRel] at hx
      obtain ⟨k1, ver', sz, xs, k2, k3, k4⟩ := hx
      simp only [normC, hobj, k2]
      split
      · rename_i e
        simp only [VRel]
        exact ⟨k1, ver', sz, _, by rw [hob', k2]; rfl, k3, fun e => by simpa using k4 e⟩
      · simp only [VRel]
    | _ => exact rest (by simp) (by simp)
  have ncs : ∀ cs us, CList tab g obj w cs us → CList tab g obj' w (cs.map (normC h)) us := by
    intro cs
    induction cs with
    | nil => intro us hc; cases us with | nil => simp [CList] | cons => simp only [CList] at hc
    | cons c cs ih =>
      intro us hc
      cases us with
      | nil => simp only [CList] at hc
      | cons u us => simp only [List.map_cons, CList] at *; exact ⟨nc _ _ hc.1, hc.2.1, ih us hc.2.2⟩
  have nv : ∀ x v, VRel tab g obj w x v → VRel tab g obj' w (normV h x) v := by
    intro x v hx
    cases x with
    | agg cs =>
      simp only [VRel] at hx
      obtain ⟨vs, k1, k2⟩ := hx
      simp only [normV, VRel]
      exact ⟨vs, k1, ncs cs vs k2⟩
    | tup ws =>
      cases ws with
      | nil => simp only [normV, VRel] at *; exact hx.imp fun vs k => ⟨k.1, by have := k.2; cases vs with | nil => simp only [VList] | cons => simp only [VList] at this⟩
      | cons => exact nc _ _ hx
    | _ => exact nc _ _ hx
  have hown : ∀ i b o, owns g obj' i b o → owns g obj i b o := fun i b o ho => by
    unfold owns at ho ⊢
    rw [hob'] at ho
    cases hi : obj i with
    | none => rw [hi] at ho; exact ho
    | some ob => rw [hi] at ho; cases ob <;> exact ho
  have kev : KEvo g obj g obj' := fun i => by
    rw [hob']
    cases hi : obj i with
    | none => trivial
    | some o =>
      cases o with
      | box cs => exact ⟨.inl ⟨_, rfl⟩, rfl⟩
      | cst ds => exact ⟨.inr ⟨_, rfl⟩, rfl⟩
      | tok v sz => exact ⟨_, _, rfl⟩
      | arr v sz xs => exact ⟨v, _, rfl, Nat.le_refl _, fun _ => ⟨by simp, rfl⟩⟩
      | map kvs => exact ⟨⟨_, rfl⟩, rfl⟩
  have hlook : ∀ (l : List (Nat × V)) t, look (normTmps h l) t = normV h (look l t) := by
    intro l
    induction l with
    | nil => intro t; rfl
    | cons p l ih =>
      obtain ⟨i, v⟩ := p
      intro t
      simp only [normTmps, look_cons]
      split
      · rfl
      · exact ih t
  refine ⟨⟨fun t => by rw [hlook]; exact nv _ _ (hR.rel.tmp t), hR.rel.size, hR.rel.defers, ?_⟩, evo_sub hR.evo hown (hR.evo.kevo.trans kev)⟩
  refine hrel_sub hR.rel.heap hown (fun i hm b o hb kvs e => ?_) (fun i o hi => ?_)
  · obtain ⟨kvs', hk⟩ := b2 i kvs e
    exact hm kvs' hk
  · rw [hob'] at hi
    cases hio : obj i with
    | none => rw [hio] at hi; simp [normObj] at hi
    | some ob =>
      have hr := hR.rel.heap.ob i ob hio
      rw [hio] at hi
      cases ob with
      | box cs =>
        simp only [normObj, Option.some.injEq] at hi
        subst hi
        obtain ⟨k1, us, k2, k3⟩ := hr
        exact ⟨by simpa using k1, us, ncs cs us k2, k3⟩
      | cst ds => simp only [normObj, Option.some.injEq] at hi; subst hi; exact hr
      | tok v sz => simp only [normObj, Option.some.injEq] at hi; subst hi; exact hr
      | arr v sz xs =>
        simp only [normObj, Option.some.injEq] at hi
        subst hi
        obtain ⟨k1, k2, k3, k4⟩ := hr
        refine ⟨fun r hr => ?_, by simpa using k2, k3, fun j r q x h5 h6 => ?_⟩
        · obtain ⟨r', m1, rfl⟩ := List.mem_map.1 hr
          simpa using k1 r' m1
        · rw [List.getElem?_map] at h5
          obtain ⟨r', m1, rfl⟩ := Option.map_eq_some_iff.1 h5
          rw [List.getElem?_map] at h6
          obtain ⟨x', m2, rfl⟩ := Option.map_eq_some_iff.1 h6
          obtain ⟨u, m3, m4, m5⟩ := k4 j r' q x' m1 m2
          exact ⟨u, m3, nc _ _ m4, m5⟩
      | map kvs =>
        simp only [normObj, Option.some.injEq] at hi
        subst hi
        obtain ⟨es, cl, k1, k2⟩ := hr
        refine ⟨es, cl, k1, ?_⟩
        have : ∀ (kvs : List (List D × V)) (es : List MapEntry), EList tab g obj w kvs es → EList tab g obj' w (kvs.map fun p => (p.1, normV h p.2)) es := by
          intro kvs
          induction kvs with
          | nil => intro es he; cases es with | nil => simp [EList] | cons => simp only [EList] at he
          | cons p kvs ih =>
            intro es he
            cases es with
            | nil => simp only [EList] at he
            | cons e es => simp only [List.map_cons, EList] at *; exact ⟨he.1, nv _ _ he.2.1, ih es he.2.2⟩
        exact this kvs _ k2

theorem back_ok {nt : Nat} {g0 : Gh} {ob0 : Nat → Option Obj} {w0 : World} {ann : Ann} {n : Nat} {s s' : St} {a : Act} (h : Go1 tab nt g0 ob0 w0 g s.get s.obj a w) (h0 : ∀ i, (ob0 i).isSome = true → i < n) (hb : back ann n s = some s') : Go1 tab nt g0 ob0 w0 g s'.get s'.obj a w := by
  unfold back at hb
  simp only at hb
  have h := dats_ok ann h
  generalize dats ann s = s at h hb
  have hk : Go1 tab nt g0 ob0 w0 g (look (keepTmps s ann.keep)) s.obj a w := h.weaken fun t => look_keep s ann.keep t
  split at hb
  · split at hb
    · rename_i hc
      simp only [Bool.and_eq_true] at hc
      simp only [Option.some.injEq] at hb
      subst hb
      exact norm_ok (cut_ok hk h0 hc.1 hc.2)
    · cases hb
  · simp only [Option.some.injEq] at hb
    subst hb
    exact hk

end
end Ab

/-
  What the interpreter says of compiled code, the code does.
-/
namespace Ab
open Go
open Go.RowKit (Below)
set_option linter.unusedVariables false

def exOf : Ex → Exit
  | .normal => .normal
  | .exit id => .exit id
  | .ret => .ret

section
variable {P : Program} {tab : Tab} {call : CallF}

theorem comp_sound (hB : BodyOk P tab) (hCall : CallOk P tab call) (hm : P.follows .mixedOrders = true) (n : Nat) {nt : Nat} {g0 : Gh} {ob0 : Nat → Option Obj} {w0 : World} :
    ∀ (c : Code) (cc : CCode) (m m' : Notes), comp P tab nt c m = some (cc, m') → ∀ (s s' : St) (ex : Ex), execC call n cc s = some (ex, s') → ∀ (g : Gh) (a : Act) (w : World), Go1 tab nt g0 ob0 w0 g s.get s.obj a w →
      ∀ (Q : Exit → Act → World → Prop), (∀ g' a' w', Go1 tab nt g0 ob0 w0 g' s'.get s'.obj a' w' → Q (exOf ex) a' w') → c.wp P Q a w := by
  intro c
  induction c with
  | skip =>
    intro cc m m' hc s s' ex hx g a w hR Q hQ
    simp only [comp, Option.some.injEq, Prod.mk.injEq] at hc
    obtain ⟨rfl, rfl⟩ := hc
    simp only [execC, Option.some.injEq, Prod.mk.injEq] at hx
    obtain ⟨rfl, rfl⟩ := hx
    exact wp_skip (hQ g a w hR)
  | label l =>
    intro cc m m' hc s s' ex hx g a w hR Q hQ
    simp only [comp, Option.some.injEq, Prod.mk.injEq] at hc
    obtain ⟨rfl, rfl⟩ := hc
    simp only [execC, Option.some.injEq, Prod.mk.injEq] at hx
    obtain ⟨rfl, rfl⟩ := hx
    exact wp_label (hQ g a w hR)
  | exit id =>
    intro cc m m' hc s s' ex hx g a w hR Q hQ
    simp only [comp, Option.some.injEq, Prod.mk.injEq] at hc
    obtain ⟨rfl, rfl⟩ := hc
    simp only [execC, Option.some.injEq, Prod.mk.injEq] at hx
    obtain ⟨rfl, rfl⟩ := hx
    exact wp_exit (hQ g a w hR)
  | ret =>
    intro cc m m' hc s s' ex hx g a w hR Q hQ
    simp only [comp, Option.some.injEq, Prod.mk.injEq] at hc
    obtain ⟨rfl, rfl⟩ := hc
    simp only [execC, Option.some.injEq, Prod.mk.injEq] at hx
    obtain ⟨rfl, rfl⟩ := hx
    exact wp_ret (hQ g a w hR)
  | region id ops draw =>
    intro cc m m' hc s s' ex hx g a w hR Q hQ
    simp only [comp] at hc
    split at hc
    · rename_i cs fz hcs
      split at hc
      · rename_i hcond
        simp only [Option.some.injEq, Prod.mk.injEq] at hc
        obtain ⟨rfl, rfl⟩ := hc
        obtain ⟨k1, k2⟩ := compOps_ok hcs
        simp only [execC] at hx
        split at hx
        · rename_i s2 hrun
          simp only [Option.some.injEq, Prod.mk.injEq] at hx
          obtain ⟨rfl, rfl⟩ := hx
          have hQ' : ∀ g' a' w', Go1 tab nt g s.obj w g' s2.get s2.obj a' w' → Q .normal a' w' := fun g' a' w' h => hQ g' a' w' ⟨h.rel, hR.evo.trans h.evo⟩
          cases draw with
          | false => exact region_seq hB hCall k1 hrun hR.rel hQ'
          | true =>
            simp only [Bool.not_true, Bool.false_or, Bool.and_eq_true] at hcond
            refine region_any hB hCall hm k1 (fun i c hic => ?_) hcond.1 hcond.2 hrun hR.rel hQ'
            simpa using k2 rfl i c hic
        · cases hx
      · cases hc
    · cases hc
  | seq x y ihx ihy =>
    intro cc m m' hc s s' ex hx g a w hR Q hQ
    simp only [comp] at hc
    split at hc
    · rename_i x' m1 hx'
      split at hc
      · rename_i y' m2 hy'
        simp only [Option.some.injEq, Prod.mk.injEq] at hc
        obtain ⟨rfl, rfl⟩ := hc
        simp only [execC] at hx
        split at hx
        · rename_i s1 h1
          exact wp_seq (ihx x' m m1 hx' s s1 .normal h1 g a w hR _ (fun g' a' w' h => ihy y' m1 _ hy' s1 s' ex hx g' a' w' h Q hQ))
        · rename_i hne
          refine wp_seq (ihx x' m m1 hx' s s' ex hx g a w hR _ (fun g' a' w' h => ?_))
          have := hQ g' a' w' h
          cases ex with
          | normal => exact absurd hx (hne s')
          | exit id => exact this
          | ret => exact this
      · cases hc
    · cases hc
  | cond c x y ihx ihy =>
    intro cc m m' hc s s' ex hx g a w hR Q hQ
    simp only [comp] at hc
    split at hc
    · rename_i c' hc'
      split at hc
      · rename_i x' m1 hx'
        split at hc
        · rename_i y' m2 hy'
          simp only [Option.some.injEq, Prod.mk.injEq] at hc
          obtain ⟨rfl, rfl⟩ := hc
          have hv := compA_rel (w := w) hc' hR.rel.tmp
          simp only [execC, ev_eq] at hx
          split at hx
          · rename_i e
            rw [e] at hv
            simp only [VRel, DRel] at hv
            exact wp_cond_true hv (ihx x' m m1 hx' s s' ex hx g a w hR Q hQ)
          · rename_i e
            rw [e] at hv
            simp only [VRel, DRel] at hv
            exact wp_cond_false hv (ihy y' m1 _ hy' s s' ex hx g a w hR Q hQ)
          · cases hx
        · cases hc
      · cases hc
    · cases hc
  | block id c ih =>
    intro cc m m' hc s s' ex hx g a w hR Q hQ
    simp only [comp] at hc
    split at hc
    · rename_i c' m1 hc'
      simp only [Option.some.injEq, Prod.mk.injEq] at hc
      obtain ⟨rfl, rfl⟩ := hc
      simp only [execC] at hx
      split at hx
      · rename_i id' s1 h1
        refine wp_block (ih c' m m1 hc' s s1 (.exit id') h1 g a w hR _ (fun g' a' w' h => ?_))
        split at hx
        · rename_i e
          simp only [Option.some.injEq, Prod.mk.injEq] at hx
          obtain ⟨rfl, rfl⟩ := hx
          simp only [exOf, Exit.inBlock, e, if_true]
          exact hQ g' a' w' h
        · rename_i e
          simp only [Option.some.injEq, Prod.mk.injEq] at hx
          obtain ⟨rfl, rfl⟩ := hx
          simp only [exOf, Exit.inBlock, e, if_false]
          exact hQ g' a' w' h
      · rename_i hne
        refine wp_block (ih c' m m1 hc' s s' ex hx g a w hR _ (fun g' a' w' h => ?_))
        have := hQ g' a' w' h
        cases ex with
        | normal => exact this
        | exit id' => exact absurd hx (hne id' s')
        | ret => exact this
    · cases hc
  | loop c ih =>
    intro cc m m' hc s s' ex hx g a w hR Q hQ
    simp only [comp] at hc
    split at hc
    · rename_i ann as hann
      split at hc
      · rename_i c' m1 hc'
        simp only [Option.some.injEq, Prod.mk.injEq] at hc
        obtain ⟨rfl, rfl⟩ := hc
        simp only [execC] at hx
        obtain ⟨g1, hR1⟩ := enter_ok ann hR
        have hlow : ∀ i, (ob0 i).isSome = true → i < (enter ann s).heap.length := fun i hi => obj_lt (kevo_some hR1.evo.kevo hi)
        intro b k cs
        have key : ∀ (n' : Nat) (s1 : St) (g : Gh) (a : Act) (w : World), Go1 tab nt g0 ob0 w0 g s1.get s1.obj a w → loopN (execC call n c') (back ann (enter ann s).heap.length) n' s1 = some (ex, s') →
            ∃ e a' w', Q e a' w' ∧ Arrives P (lone (b.at a (.code c :: .inLoop c :: k)) cs w) b k cs e a' w' := by
          intro n'
          induction n' with
          | zero => intro s1 g a w _ h; cases h
          | succ n' ihn =>
            intro s1 g a w hR h
            simp only [loopN] at h
            split at h
            · rename_i s2 h2
              split at h
              · rename_i s3 h3
                obtain ⟨e, a₁, w₁, hq, harr⟩ := ih c' _ m1 hc' s1 s2 .normal h2 g a w hR (fun e a' w' => e = .normal ∧ ∃ g', Go1 tab nt g0 ob0 w0 g' s2.get s2.obj a' w') (fun g' a' w' h => ⟨rfl, g', h⟩) b (.inLoop c :: k) cs
                obtain ⟨rfl, g', hR'⟩ := hq
                obtain ⟨e₂, a₂, w₂, hq₂, harr₂⟩ := ihn s3 g' a₁ w₁ (back_ok hR' hlow h3) h
                exact ⟨e₂, a₂, w₂, hq₂, .of_steps (Steps.trans harr (.one step_inLoop)) harr₂⟩
              · cases h
            · rename_i hne
              obtain ⟨e, a₁, w₁, hq, harr⟩ := ih c' _ m1 hc' s1 s' ex h g a w hR (fun e a' w' => e = exOf ex ∧ Q e a' w') (fun g' a' w' h => ⟨rfl, hQ g' a' w' h⟩) b (.inLoop c :: k) cs
              obtain ⟨rfl, hq⟩ := hq
              cases ex with
              | normal => exact absurd h (hne s')
              | exit id => exact ⟨_, a₁, w₁, hq, .pass (x := .inLoop c) rfl (fun _ _ => .inl (by simp [exOf])) harr⟩
              | ret => exact ⟨_, a₁, w₁, hq, .pass (x := .inLoop c) rfl (fun _ _ => .inl (by simp [exOf])) harr⟩
        obtain ⟨e, a', w', hq, harr⟩ := key n _ g1 a w hR1 hx
        exact ⟨e, a', w', hq, .of_steps (.one step_loop) harr⟩
      · cases hc
    · cases hc
  | scope c ih =>
    intro cc m m' hc s s' ex hx g a w hR Q hQ
    simp only [comp] at hc
    refine wp_scope_straight (ih cc m m' hc s s' ex hx g a w hR _ (fun g' a' w' h => ?_))
    have := hQ g' a' w' h
    cases ex <;> exact this
  | _ => intro cc m m' hc; simp [comp] at hc

end
end Ab

/-
  What the interpreter says of a call, the call does.
-/
namespace Ab
open Go
open Go.RowKit (Below)
set_option linter.unusedVariables false

section
variable {P : Program} {tab : Tab} {call : CallF}

theorem hrel_none {at_ : Nat → Place} {im : Nat → Nat → Prop} {w : World} (h : ∀ b o, im b o → b < w.heap.size) : HRel tab ⟨at_, im⟩ (fun _ => none) w where
  ob i o ho := by cases ho
  imm i b o ho := by exact ho.elim
  one i j b o ho := by exact ho.elim
  old i b o ho := by exact ho.elim
  frz i b o ho := by exact ho.elim
  imOld := h

theorem look_zip : ∀ (args : List V) (k t : Nat), look ((args.zipIdx k).map fun p => (p.2, p.1)) t = if k ≤ t then args.getD (t - k) .bad else .bad
  | [], k, t => by simp [look]
  | x :: args, k, t => by
    simp only [List.zipIdx_cons, List.map_cons, look_cons]
    rw [look_zip args (k + 1) t]
    by_cases h : k = t
    · subst h; simp
    · rw [if_neg h]
      by_cases h2 : k ≤ t
      · rw [if_pos h2, if_pos (by omega)]
        obtain ⟨m, rfl⟩ : ∃ m, t = k + 1 + m := ⟨t - (k + 1), by omega⟩
        rw [show k + 1 + m - k = m + 1 by omega, show k + 1 + m - (k + 1) = m by omega]
        simp
      · rw [if_neg h2, if_neg (by omega)]

theorem below_of {g : Gh} {w w' : World} {g' : Gh} {obj' : Nat → Option Obj} (h : Evo g (fun _ => none) w g' obj' w') : Below w.heap.size w w' := by
  refine ⟨h.os, h.tape, h.output, h.size, fun b hb => ?_⟩
  have hno : ∀ o, ¬ owned g (fun _ => none) b o := fun o ⟨i, hi⟩ => hi
  rcases h.blk b hb with k | ⟨c, c', t, fr, k1, k2, k3, k4⟩ | ⟨es, cl, es', cl', k1, k2, k3⟩
  · exact k
  · rw [k1, k2]
    have : c' = c := Array.ext_getElem? fun i => k4 i (hno i)
    rw [this]
  · exact absurd (k3 0) (hno 0)

theorem entry_ok {nt : Nat} {g : Gh} {w : World} {args : List V} {hp : List (Option Obj)} {vs : List Value} (hH : HRel tab g (objOf hp) w) (h : VList tab g (objOf hp) w args vs) :
    Go1 tab nt g (objOf hp) w g (entry args hp).get (entry args hp).obj { tmps := vs.toArray ++ Array.replicate (nt - vs.toArray.size) undef, defers := [] } w := by
  have hob : (entry args hp).obj = objOf hp := rfl
  rw [hob]
  refine ⟨⟨fun t => ?_, by simp; omega, rfl, hH⟩, .refl _ _ _⟩
  have hl := h.length
  show VRel tab _ _ w (look _ t) _
  simp only [entry]
  rw [look_zip args 0 t]
  simp only [Nat.zero_le, if_true, Nat.sub_zero]
  rcases Nat.lt_or_ge t args.length with ht | ht
  · obtain ⟨u, k1, k2⟩ := h.get (i := t) (x := args[t]) (List.getElem?_eq_getElem ht)
    rw [show args.getD t .bad = args[t] by simp [ht]]
    have : (vs.toArray ++ Array.replicate (nt - vs.toArray.size) undef).getD t undef = u := by
      rw [Array.getD_eq_getD_getElem?, Array.getElem?_append_left (by simp; omega)]
      simp [k1]
    simp only [this]
    exact k2
  · rw [show args.getD t .bad = .bad by simp [List.getD, List.getElem?_eq_none ht]]
    simp only [VRel]

/-- where a result is told. -/
def resultAt (tmps : Array Value) : ResultVar → Sem Value
  | .tmp t => pure (tmps.getD t undef)
  | .cell a t => do loadVar t (← asAddr (tmps.getD a undef))

theorem results_eq (fn : Func) (tmps : Array Value) : results fn tmps = (do
    let vs ← fn.results.mapM (resultAt tmps)
    pure (if h : vs.size = 1 then vs[0] else .tuple vs)) := by
  unfold results
  have : (fun r => match r with
    | .tmp t => pure (tmps.getD t undef)
    | .cell a t => do loadVar t (← asAddr (tmps.getD a undef)) : ResultVar → Sem Value) = resultAt tmps := by
    funext r; cases r <;> rfl
  rw [← this]
  rfl

theorem ret_sound {nt : Nat} {g : Gh} {s : St} {a : Act} {w : World} (hR : Rel tab nt g s.get s.obj a w) : ∀ (rs : List ResultVar) (rets : List Ret) (vs : List V), compRets P rs = some rets → retAll s rets = some vs →
    ∃ us, (rs.mapM (resultAt a.tmps)).run P w = .ok us w ∧ VList tab g s.obj w vs us
  | [], rets, vs, h1, h2 => by
    simp only [compRets, Option.some.injEq] at h1
    subst h1
    simp only [retAll, Option.some.injEq] at h2
    subst h2
    exact ⟨[], by simp, by simp only [VList]⟩
  | .tmp t :: rs, rets, vs, h1, h2 => by
    simp only [compRets] at h1
    split at h1
    · rename_i rets' h1'
      simp only [Option.some.injEq] at h1
      subst h1
      simp only [retAll] at h2
      split at h2
      · rename_i v vs' hv hvs
        simp only [Option.some.injEq] at h2
        subst h2
        obtain ⟨us, k1, k2⟩ := ret_sound hR rs rets' vs' h1' hvs
        refine ⟨a.tmps.getD t undef :: us, by simp [List.mapM_cons, resultAt, k1], ?_⟩
        simp only [VList]
        exact ⟨hand_rel _ _ _ (by simpa [retV] using hv) (hR.tmp t), k2⟩
      · cases h2
    · cases h1
  | .cell c t :: rs, rets, vs, h1, h2 => by
    simp only [compRets] at h1
    split at h1
    · rename_i rets' h1'
      split at h1
      · rename_i hok
        simp only [Option.some.injEq] at h1
        subst h1
        simp only [retAll] at h2
        split at h2
        · rename_i v vs' hv hvs
          simp only [Option.some.injEq] at h2
          subst h2
          obtain ⟨us, k1, k2⟩ := ret_sound hR rs rets' vs' h1' hvs
          have hx := hR.tmp c
          simp only [retV] at hv
          split at hv
          · rename_i id off hget
            rw [hget] at hx
            simp only [VRel] at hx
            split at hv
            · rename_i cs hcs
              split at hv
              · rename_i cc hcc
                split at hv
                · rename_i x hx2
                  obtain ⟨m1, us0, m2, m3⟩ := hR.heap.ob id _ hcs
                  obtain ⟨hle, rfl⟩ := takeV_some hcc
                  obtain ⟨n1, n2⟩ := asVar_rel hx2 ((m2.drop off).take _)
                  have hh : Holds w (g.at_ id).blk ((g.at_ id).lo + off) ((us0.drop off).take (P.cellsOf t)) := (Holds.drop m3 off).take _
                  have hrun := run_loadVar (P := P) (w := w) (okVar_of hok) n1 hh
                  refine ⟨varOf (isAggT P t) ((us0.drop off).take (P.cellsOf t)) :: us, ?_, ?_⟩
                  · simp [List.mapM_cons, resultAt, hx.2, asAddr, hrun, k1]
                  · simp only [VList]
                    exact ⟨hand_rel _ _ _ hv n2, k2⟩
                · cases hv
              · cases hv
            · cases hv
          · cases hv
        · cases h2
      · cases h1
    · cases h1

def ansV : List Value → Value
  | [u] => u
  | us => .tuple us.toArray

theorem answer_rel {g : Gh} {obj : Nat → Option Obj} {w : World} {vs : List V} {us : List Value} (h : VList tab g obj w vs us) : VRel tab g obj w (answer vs) (ansV us) := by
  match vs, us, h with
  | [v], [u], h => simp only [VList] at h; exact h.1
  | [], [], h => simp only [answer, VRel]; exact ⟨[], rfl, by simp only [VList]⟩
  | x :: y :: vs, u :: u2 :: us, h => simp only [answer, VRel]; exact ⟨_, rfl, h⟩
  | [], _ :: _, h => simp only [VList] at h
  | [_], [], h => simp only [VList] at h
  | [_], _ :: _ :: _, h => simp only [VList] at h; exact h.2.elim
  | _ :: _ :: _, [], h => simp only [VList] at h
  | _ :: _ :: _, [_], h => simp only [VList] at h; exact h.2.elim

theorem result_sound {nt : Nat} {g0 : Gh} {hp : List (Option Obj)} {w0 : World} {g : Gh} {s : St} {a : Act} {w : World} (hG : Go1 tab nt g0 (objOf hp) w0 g s.get s.obj a w) {fn : Func} {rets : List Ret} (h1 : compRets P fn.results.toList = some rets) {r : V} {h' : List (Option Obj)} (h2 : result hp.length s rets = some (r, h')) :
    ∃ v g', (results fn a.tmps).run P w = .ok v w ∧ HRel tab g' (objOf h') w ∧ Evo g0 (objOf hp) w0 g' (objOf h') w ∧ VRel tab g' (objOf h') w r v := by
  unfold result at h2
  split at h2
  · cases h2
  · rename_i vs hvs
    obtain ⟨us, k1, k2⟩ := ret_sound hG.rel fn.results.toList rets vs h1 hvs
    split at h2
    · cases h2
    · rename_i L hL
      split at h2
      · cases h2
      · rename_i h hren
        simp only [Option.some.injEq, Prod.mk.injEq] at h2
        obtain ⟨rfl, rfl⟩ := h2
        obtain ⟨m1, m2, m3, _⟩ := gather_ok hG.rel.heap hG.evo hL hren
        have hval : VRel tab ⟨fun i => g.at_ (L.getD i 0), g.im⟩ (objOf h) w (V.ren (placeOf L) noShift (answer vs)) (ansV us) := by
          refine VRel.ren (g := g) (obj := s.obj) (g2 := ⟨fun i => g.at_ (L.getD i 0), g.im⟩) rfl _ _ (fun i hi => m3 i ?_) (answer_rel k2)
          match vs, hi with
          | [v], hi => simpa [V.refsAll, answer] using hi
          | [], hi => simpa [V.refsAll, V.refs, answer] using hi
          | x :: y :: vs, hi => simpa [V.refs, answer] using hi
        refine ⟨_, _, ?_, m1, m2, hval⟩
        rw [results_eq]
        simp only [Array.mapM_eq_mapM_toList, Sem.run_bind, Sem.run_map, k1, Result.andThen_ok, Sem.run_pure]
        match us with
        | [u] => simp [ansV]
        | [] => simp [ansV]
        | _ :: _ :: _ => simp [ansV]

theorem fn_sound (hB : BodyOk P tab) (hCall : CallOk P tab call) (hm : P.follows .mixedOrders = true) (n : Nat) {fid : Nat} {fn : Func} (hf : P.funcs[fid]? = some fn) {cf : CFn} {notes : Notes} (hc : compFn P tab fn notes = some cf) : FnOk P tab fid (runFn call n (.code cf)) := by
  intro ds hp r hp' h g w vs hH hds
  unfold compFn at hc
  split at hc
  · rename_i body hbody
    split at hc
    · rename_i cc m' rets hcc hrets
      simp only [Option.some.injEq] at hc
      subst hc
      refine calls_of_wp hf hbody ?_
      simp only [runFn] at h
      obtain ⟨ex, s, hex, hres, hne⟩ : ∃ ex s, execC call n cc (entry ds hp) = some (ex, s) ∧ result hp.length s rets = some (r, hp') ∧ (ex = .normal ∨ ex = .ret) := by
        split at h
        · rename_i s hs; exact ⟨_, s, hs, h, .inl rfl⟩
        · rename_i s hs; exact ⟨_, s, hs, h, .inr rfl⟩
        · cases h
      refine comp_sound hB hCall hm n body cc notes m' hcc (entry ds hp) s ex hex g _ w (entry_ok hH hds) _ (fun g' a' w' hG => ?_)
      obtain ⟨v, g2, k1, k2, k3, k4⟩ := result_sound hG hrets hres
      have hfin : a'.defers = [] ∧ ∃ v, (results fn a'.tmps).run P w' = .ok v w' ∧ ∃ v1 g', Ending.returned v = .returned v1 ∧ HRel tab g' (objOf hp') w' ∧ Evo g (objOf hp) w g' (objOf hp') w' ∧ VRel tab g' (objOf hp') w' r v1 :=
        ⟨hG.rel.defers, v, k1, v, g2, rfl, k2, k3, k4⟩
      rcases hne with rfl | rfl
      · exact hfin
      · exact hfin
    · cases hc
  · cases hc

/-- all functions of a table are what is said of them. -/
structure TabOk (P : Program) (tab : Tab) (E : Nat → Option Fn) : Prop where
  body : BodyOk P tab
  mixed : P.follows .mixedOrders = true
  code : ∀ fid key cf, keyOf tab fid = some key → E key = some (.code cf) → ∃ fn notes, P.funcs[fid]? = some fn ∧ compFn P tab fn notes = some cf
  prim : ∀ fid key f, keyOf tab fid = some key → E key = some (.prim f) → FnOk P tab fid f

theorem ecall_ok {E : Nat → Option Fn} (hT : TabOk P tab E) : ∀ (k : Nat), CallOk P tab (ecall E k)
  | 0 => fun fid key hk ds hp r hp' h => by cases h
  | k + 1 => fun fid key hk ds hp r hp' h => by
    simp only [ecall] at h
    split at h
    · rename_i f hf
      cases f with
      | code cf =>
        obtain ⟨fn, notes, h1, h2⟩ := hT.code fid key cf hk hf
        exact fn_sound hT.body (ecall_ok hT k) hT.mixed k h1 h2 ds hp r hp' h
      | prim f => exact hT.prim fid key f hk hf ds hp r hp' h
    · cases h
end
end Ab
