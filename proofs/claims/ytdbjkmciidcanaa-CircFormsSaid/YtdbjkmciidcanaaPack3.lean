/-
 A region's operations in any order that its edges let be.
-/
import Derived.Test.YtdbjkmciidcanaaPack2
import Derived.Scope
import Derived.LoopNIn
import Derived.RangeFuncNested
import Derived.RangeFuncLeaves
import Derived.Maps.RangeRun
set_option linter.unusedSimpArgs false
set_option linter.unusedVariables false
set_option linter.unusedSectionVars false
set_option linter.unnecessarySimpa false
namespace Ab
open Go
open Go.RowKit (Below)
section
variable {α β : Type} (F : Eff → (α → β) → (α → β))
def ap : List Eff → (Nat → Bool) → Nat → (α → β) → (α → β)
 | [], _, _, x => x
 | e :: es, S, i, x => ap es S (i + 1) (if S i then F e x else x)
variable {F} {T : Eff → α → Prop} (hc : ∀ e x y t, x t = y t → F e x t = F e y t) (hu : ∀ e x t, ¬ T e t → F e x t = x t)
include hc hu
theorem ap_agree {t : α} {S S' : Nat → Bool} : ∀ (es : List Eff) (i : Nat) (x y : α → β), (∀ q e, es[q]? = some e → T e t → S (i + q) = S' (i + q)) → x t = y t → ap F es S i x t = ap F es S' i y t
 | [], i, x, y, _, h => h
 | e :: es, i, x, y, h, hxy => by
  simp only [ap]
  refine ap_agree es (i + 1) _ _ (fun q e' he ht => by have := h (q + 1) e' (by simpa using he) ht; rwa [show i + (q + 1) = i + 1 + q by omega] at this) ?_
  by_cases ht : T e t
  ·have := h 0 e rfl ht
   rw [Nat.add_zero] at this
   rw [this]
   split
   ·exact hc e x y t hxy
   ·exact hxy
  ·have h1 : (if S i = true then F e x else x) t = x t := by split; exact hu e x t ht; rfl
   have h2 : (if S' i = true then F e y else y) t = y t := by split; exact hu e y t ht; rfl
   rw [h1, h2, hxy]
theorem ap_none {t : α} {S : Nat → Bool} : ∀ (es : List Eff) (i : Nat) (x : α → β), (∀ q e, es[q]? = some e → S (i + q) = true → ¬ T e t) → ap F es S i x t = x t
 | [], i, x, _ => rfl
 | e :: es, i, x, h => by
  simp only [ap]
  rw [ap_none es (i + 1) _ (fun q e' he hs => h (q + 1) e' (by simpa using he) (by rwa [show i + (q + 1) = i + 1 + q by omega]))]
  split
  ·rename_i hs; exact hu e x t (h 0 e rfl (by simpa using hs))
  ·rfl
omit hc hu in
theorem ap_append {S : Nat → Bool} : ∀ (pre post : List Eff) (i : Nat) (x : α → β), ap F (pre ++ post) S i x = ap F post S (i + pre.length) (ap F pre S i x)
 | [], post, i, x => rfl
 | e :: pre, post, i, x => by
  simp only [List.cons_append, ap]
  rw [ap_append pre post (i + 1)]
  simp only [List.length_cons]
  rw [show i + 1 + pre.length = i + (pre.length + 1) by omega]
theorem ap_extend {S : Nat → Bool} {es : List Eff} {k : Nat} {e : Eff} (hk : es[k]? = some e) (hS : S k = false) (t : α) (x : α → β) (h : ∀ q e', k < q → es[q]? = some e' → S q = true → T e' t → T e t → False) :
  ap F es (fun i => S i || i == k) 0 x t = F e (ap F es S 0 x) t := by
 by_cases ht : T e t
 ·have hlt : k < es.length := by
   rcases Qn k es.length with h | h
   ·exact h
   ·rw [Qe h] at hk; cases hk
  have hes : es = es.take k ++ e :: es.drop (k + 1) := by
   have h1 := List.take_append_drop k es
   rw [List.drop_eq_getElem_cons hlt] at h1
   rw [Qd hlt] at hk
   simp only [Qa] at hk
   rw [hk] at h1
   exact h1.symm
  have hpl : (es.take k).length = k := by simp; omega
  have hpre : ap F (es.take k) (fun i => S i || i == k) 0 x = ap F (es.take k) S 0 x := by
   funext t'
   refine ap_agree hc hu (S := fun i => S i || i == k) (S' := S) (es.take k) 0 x x (fun q e' he _ => ?_) rfl
   have hq : q < k := by
    rcases Qn q k with h | h
    ·exact h
    ·rw [Qe (by rw [hpl]; exact h)] at he; cases he
   simp only [Nat.zero_add]
   have : (q == k) = false := by simp; omega
   rw [this, Bool.or_false]
  have later : ∀ q e', (es.drop (k + 1))[q]? = some e' → S (k + 1 + q) = true → ¬ T e' t := fun q e' he hs ht' => by
   rw [List.getElem?_drop] at he
   exact h (k + 1 + q) e' (by omega) he hs ht' ht
  have e1 : ap F es (fun i => S i || i == k) 0 x t = F e (ap F (es.take k) S 0 x) t := by
   conv => lhs; rw [hes]
   rw [ap_append, hpl, hpre]
   simp only [ap, Nat.zero_add, hS, beq_self_eq_true, Bool.or_true, if_true]
   refine ap_none hc hu _ _ _ (fun q e' he hs => later q e' he ?_)
   simp only [Bool.or_eq_true, beq_iff_eq] at hs
   rcases hs with hs | hs
   ·exact hs
   ·omega
  have e2 : ap F es S 0 x t = ap F (es.take k) S 0 x t := by
   conv => lhs; rw [hes]
   rw [ap_append, hpl]
   simp only [ap, Nat.zero_add, hS, Qm, if_false]
   exact ap_none hc hu _ _ _ later
  rw [e1]
  exact hc e _ _ t e2.symm
 ·rw [hu e _ t ht]
  refine ap_agree hc hu es 0 x x (fun q e' he ht' => ?_) rfl
  simp only [Nat.zero_add]
  by_cases hq : q = k
  ·subst hq
   rw [hk] at he
   simp only [Qa] at he
   subst he
   exact absurd ht' ht
  ·have : (q == k) = false := by simp [hq]
   rw [this, Bool.or_false]
end
def tG (e : Eff) (t : Nat) : Prop := e.dst = some t
def tO (e : Eff) (i : Nat) : Prop := (e.wr = true ∧ i ∈ e.ids) ∨ e.new i = true
theorem getF_congr (e : Eff) (x y : Nat → V) (t : Nat) (h : x t = y t) : e.getF x t = e.getF y t := by
 unfold Eff.getF putF
 cases e.dst with
 | none => exact h
 | some d => simp only; split; rfl; exact h
theorem getF_un (e : Eff) (x : Nat → V) (t : Nat) (h : ¬ tG e t) : e.getF x t = x t := by
 unfold Eff.getF putF
 unfold tG at h
 cases hd : e.dst with
 | none => rfl
 | some d => simp only; rw [if_neg]; intro e'; subst e'; exact h hd
theorem updL_congr {x y : Nat → Option Obj} {t : Nat} : ∀ (is : List Nat) (os : List (Option Obj)) (x y : Nat → Option Obj), x t = y t → updL x is os t = updL y is os t
 | [], _, _, _, h => by simpa [updL] using h
 | _ :: _, [], _, _, h => by simpa [updL] using h
 | i :: is, o :: os, x, y, h => by
  simp only [updL]
  refine updL_congr (x := x) (y := y) is os _ _ ?_
  unfold updO
  split
  ·rfl
  ·exact h
theorem objF_congr (e : Eff) (x y : Nat → Option Obj) (t : Nat) (h : x t = y t) : e.objF x t = e.objF y t := by
 have hw : (if e.wr = true then updL x e.ids e.os else x) t = (if e.wr = true then updL y e.ids e.os else y) t := by
  split
  ·exact updL_congr (x := x) (y := y) _ _ _ _ h
  ·exact h
 unfold Eff.objF
 exact updL_congr (x := x) (y := y) _ _ _ _ hw
theorem new_iff (e : Eff) (i : Nat) : e.new i = true ↔ ∃ k, k < e.nws.length ∧ i = e.fresh + k := by
 simp only [Eff.new, Qh]
 constructor
 ·intro h; exact ⟨i - e.fresh, by omega, by omega⟩
 ·rintro ⟨k, h1, h2⟩; omega
theorem objF_un (e : Eff) (x : Nat → Option Obj) (t : Nat) (h : ¬ tO e t) : e.objF x t = x t := by
 unfold tO at h
 have hw : (if e.wr = true then updL x e.ids e.os else x) t = x t := by
  split
  ·rename_i hwr
   exact updL_un _ _ _ (fun hm => h (.inl ⟨hwr, hm⟩))
  ·rfl
 unfold Eff.objF
 rw [updL_un _ _ _ (fun hm => ?_), hw]
 obtain ⟨k, hk, e'⟩ := List.mem_range'.1 hm
 exact h (.inr ((new_iff e t).2 ⟨k, hk, by omega⟩))
theorem enter_congr {call : CallF} {md : Md} {obj obj' : Nat → Option Obj} {key res fresh : Nat} {vs : List V} {r : V} {is : List Nat} {os ns : List (Option Obj)} (he : enterCall call md obj' key vs res fresh = some (r, is, os, ns)) (h : ∀ i ∈ is, obj i = obj' i) :
  enterCall call md obj key vs res fresh = some (r, is, os, ns) := by
 unfold enterCall at he ⊢
 split at he
 ·cases he
 ·rename_i hs hhs
  split at he
  ·cases he
  ·rename_i L hL
   have hLe : L = is := by
    split at he
    ·cases he
    ·split at he
     ·cases he
     ·simp only at he
      split at he
      ·cases he
      ·split at he
       ·simp only [Qa, Qj] at he
        exact he.2.1
       ·cases he
   have hL' : reach obj far (V.refsAll hs) [] = some L := reach_congr far _ [] L hL (fun i hi => h i (by rw [← hLe]; exact hi)) (by simp)
   have hm : L.map obj = L.map obj' := List.map_congr_left fun i hi => h i (by rw [← hLe]; exact hi)
   simp only [hhs, hL', hm]
   exact he
theorem effF_congr {call : CallF} {get get' : Nat → V} {obj obj' : Nat → Option Obj} {c : CO} {fresh : Nat} {e : Eff} (h1 : ∀ t ∈ c.looks, get t = get' t) (he : effF call get' obj' c fresh = some e) (h2 : ∀ i ∈ e.ids, obj i = obj' i) :
  effF call get obj c fresh = some e := by
 have hw : wantedF get c.guard = wantedF get' c.guard := by
  cases hg : c.guard with
  | none => rfl
  | some p =>
   obtain ⟨t, want⟩ := p
   simp only [wantedF]
   rw [h1 t (by simp [CO.looks, hg])]
 have ha : c.op.args.map (evA get) = c.op.args.map (evA get') := by
  refine List.map_congr_left fun a ha => ?_
  cases a with
  | k v => rfl
  | t t => exact h1 t (by simp only [CO.looks, List.mem_append, List.mem_flatMap]; exact .inl ⟨.t t, ha, by simp [aSlots]⟩)
 unfold effF at he ⊢
 rw [hw, ha]
 split at he
 ·cases he
 ·rename_i hg; exact he
 ·rename_i hg
  split at he
  ·rename_i hcall
   simp only [hcall, if_true]
   split at he
   ·cases he
   ·split at he
    ·cases he
    ·rename_i hent
     simp only [Qa] at he
     subst he
     rw [enter_congr hent h2]
  ·rename_i hcall
   simp only [hcall, if_false]
   split at he
   ·cases he
   ·rename_i r hr
    simp only [Qa] at he
    subst he
    have hm : (c.op.ids (c.op.args.map (evA get'))).map obj = (c.op.ids (c.op.args.map (evA get'))).map obj' := List.map_congr_left fun i hi => h2 i hi
    simp only [hm, hr]
    simp
theorem apartFrom_get {c : CO} {k : Nat} : ∀ (r : List CO), apartFrom c k r = true → ∀ (j : Nat) (b : CO), r[j]? = some b → b.pre.testBit k = true ∨ apartC c b = true := by
 intro r
 induction r with
 | nil => intro _ j b hb; simp at hb
 | cons x r ih =>
  intro h j b hb
  simp only [apartFrom, Qi, Bool.or_eq_true] at h
  cases j with
  | zero => simp only [List.getElem?_cons_zero, Qa] at hb; subst hb; exact h.1
  | succ j => exact ih h.2 j b (by simpa using hb)
theorem slotsOk_get (cs : List CO) : ∀ (k : Nat), slotsOk cs k = true → ∀ (i j : Nat) (a b : CO), i < j → cs[i]? = some a → cs[j]? = some b → b.pre.testBit (k + i) = true ∨ apartC a b = true := by
 induction cs with
 | nil => intro k h i j a b hij ha hb; simp at ha
 | cons c cs ih =>
  intro k h i j a b hij ha hb
  simp only [slotsOk, Qi] at h
  obtain ⟨j, rfl⟩ : ∃ j', j = j' + 1 := ⟨j - 1, by omega⟩
  rw [List.getElem?_cons_succ] at hb
  cases i with
  | zero =>
   simp only [List.getElem?_cons_zero, Qa] at ha
   subst ha
   exact apartFrom_get cs h.1 j b hb
  | succ i =>
   rw [List.getElem?_cons_succ] at ha
   have := ih (k + 1) h.2 i j a b (by omega) ha hb
   rwa [show k + 1 + i = k + (i + 1) by omega] at this
theorem raceFrom_get {x : Eff} {k : Nat} : ∀ (r : List CO) (es : List Eff), raceFrom x k r es = true → ∀ (j : Nat) (b : CO) (e' : Eff), r[j]? = some b → es[j]? = some e' → b.pre.testBit k = true ∨ clash x e' = false := by
 intro r
 induction r with
 | nil => intro es _ j b e' hb; simp at hb
 | cons y r ih =>
  intro es h j b e' hb he'
  cases es with
  | nil => simp at he'
  | cons z es =>
   simp only [raceFrom, Qi, Bool.or_eq_true, Bool.not_eq_true'] at h
   cases j with
   | zero => simp only [List.getElem?_cons_zero, Qa] at hb he'; subst hb; subst he'; exact h.1
   | succ j => exact ih es h.2 j b e' (by simpa using hb) (by simpa using he')
theorem noRace_get (cs : List CO) : ∀ (es : List Eff) (k : Nat), noRace cs es k = true → ∀ (i j : Nat) (b : CO) (e e' : Eff), i < j → cs[j]? = some b → es[i]? = some e → es[j]? = some e' → b.pre.testBit (k + i) = true ∨ clash e e' = false := by
 induction cs with
 | nil => intro es k h i j b e e' hij hb; simp at hb
 | cons c cs ih =>
  intro es k h i j b e e' hij hb he he'
  obtain ⟨j, rfl⟩ : ∃ j', j = j' + 1 := ⟨j - 1, by omega⟩
  rw [List.getElem?_cons_succ] at hb
  cases es with
  | nil => simp at he
  | cons x es =>
   rw [List.getElem?_cons_succ] at he'
   simp only [noRace, Qi] at h
   cases i with
   | zero =>
    simp only [List.getElem?_cons_zero, Qa] at he
    subst he
    exact raceFrom_get cs es h.1 j b e' hb he'
   | succ i =>
    rw [List.getElem?_cons_succ] at he
    have := ih es (k + 1) h.2 i j b e e' (by omega) hb he he'
    rwa [show k + 1 + i = k + (i + 1) by omega] at this
theorem edgesOk_get : ∀ {os : List Oper} {k : Nat}, edgesOk os k = true → ∀ {i : Nat} {o : Oper}, os[i]? = some o → ∀ e ∈ o.after, Region.binds .any e = true → e.on < k + i
 | [], k, h, i, o, ho => by simp at ho
 | x :: os, k, h, 0, o, ho => by
  simp only [edgesOk, Qi, List.all_eq_true] at h
  simp only [List.getElem?_cons_zero, Qa] at ho
  subst ho
  intro e he hb
  have := h.1 e (by simpa using he)
  simpa [hb] using this
 | x :: os, k, h, i + 1, o, ho => by
  simp only [edgesOk, Qi] at h
  intro e he hb
  have := edgesOk_get h.2 (i := i) (by simpa using ho) e he hb
  omega
theorem maskOf_bit {o : Oper} {acc : List Nat} {j : Nat} (h : (maskOf o acc).testBit j = true) : ∃ e ∈ o.after, Region.binds .any e = true ∧ (e.on = j ∨ (acc.getD e.on 0).testBit j = true) := by
 unfold maskOf at h
 have : ∀ (l : List Edge) (s : Nat), (l.foldl (fun s e => if Region.binds .any e then s ||| 2 ^ e.on ||| acc.getD e.on 0 else s) s).testBit j = true → s.testBit j = true ∨ ∃ e ∈ l, Region.binds .any e = true ∧ (e.on = j ∨ (acc.getD e.on 0).testBit j = true) := by
  intro l
  induction l with
  | nil => intro s h; exact .inl h
  | cons e l ih =>
   intro s h
   simp only [List.foldl_cons] at h
   rcases ih _ h with h' | ⟨e', he', h'⟩
   ·split at h'
    ·rename_i hb
     rw [Nat.testBit_or, Nat.testBit_or] at h'
     simp only [Bool.or_eq_true] at h'
     rcases h' with (h' | h') | h'
     ·exact .inl h'
     ·rw [Nat.testBit_two_pow] at h'
      exact .inr ⟨e, by simp, hb, .inl (by simpa using h')⟩
     ·exact .inr ⟨e, by simp, hb, .inr h'⟩
    ·exact .inl h'
   ·exact .inr ⟨e', by simp [he'], h'⟩
 rcases this _ _ h with h | ⟨e, he, h⟩
 ·simp at h
 ·exact ⟨e, by simpa using he, h⟩
theorem presOf_get : ∀ (os : List Oper) (acc : List Nat), (∀ i, i < acc.length → (presOf os acc).getD i 0 = acc.getD i 0) ∧ ∀ i o, os[i]? = some o → ∀ j, ((presOf os acc).getD (acc.length + i) 0).testBit j = true → ∃ e ∈ o.after, Region.binds .any e = true ∧ (e.on = j ∨ ((presOf os acc).getD e.on 0).testBit j = true)
 | [], acc => ⟨fun i _ => rfl, fun i o h => by simp at h⟩
 | x :: os, acc => by
  obtain ⟨h1, h2⟩ := presOf_get os (acc ++ [maskOf x acc])
  simp only [presOf]
  have keep : ∀ i, i < acc.length → (presOf os (acc ++ [maskOf x acc])).getD i 0 = acc.getD i 0 := fun i hi => by
   rw [h1 i (by simp; omega)]
   simp [List.getElem?_append_left hi]
  refine ⟨keep, fun i o ho j hj => ?_⟩
  cases i with
  | zero =>
   simp only [List.getElem?_cons_zero, Qa] at ho
   subst ho
   rw [Nat.add_zero, h1 acc.length (by simp)] at hj
   have : (acc ++ [maskOf x acc]).getD acc.length 0 = maskOf x acc := by simp
   rw [this] at hj
   obtain ⟨e, he, hb, h⟩ := maskOf_bit hj
   refine ⟨e, he, hb, h.imp id fun h => ?_⟩
   rcases Qn e.on acc.length with hl | hl
   ·rw [keep _ hl]; exact h
   ·have : acc.getD e.on 0 = 0 := by simp [Qe hl]
    rw [this] at h; simp at h
  | succ i =>
   have := h2 i o (by simpa using ho) j
   simp only [Qg, List.length_cons, List.length_nil] at this
   exact this (by rwa [show acc.length + (0 + 1) + i = acc.length + (i + 1) by omega])
open Go
open Go.RowKit (Below)
theorem ap_shift {α β : Type} {F : Eff → (α → β) → (α → β)} {S : Nat → Bool} : ∀ (es : List Eff) (i : Nat) (x : α → β), ap F es S (i + 1) x = ap F es (fun q => S (q + 1)) i x
 | [], _, _ => rfl
 | e :: es, i, x => by simp only [ap]; rw [ap_shift es (i + 1)]
abbrev apG := @ap Nat V Eff.getF
abbrev apO := @ap Nat (Option Obj) Eff.objF
structure Facts (call : CallF) (base j : Nat) (cs : List CO) (es : List Eff) (get0 : Nat → V) (obj0 : Nat → Option Obj) : Prop where
 each : ∀ k c, cs[k]? = some c → ∃ e, es[k]? = some e ∧ e.dst = c.dst ∧ effF call (apG es (fun q => decide (q < k)) 0 get0) (apO es (fun q => decide (q < k)) 0 obj0) c (base + j + countMk (cs.take k)) = some e ∧
  (∀ i, tO e i → i < base + j + countMk (cs.take (k + 1))) ∧ e.fresh = base + j + countMk (cs.take k) ∧ e.nws.length ≤ c.op.nmk
 len : es.length = cs.length
theorem run_facts {call : CallF} {base N : Nat} {s' : St} : ∀ (cs : List CO) (j : Nat) (s : St) (es : List Eff), runOps call base cs j s = some (s', es) → freeFrom s base j N → j + countMk cs = N →
  Facts call base j cs es s.get s.obj ∧ s'.get = apG es (fun _ => true) 0 s.get ∧ s'.obj = apO es (fun _ => true) 0 s.obj ∧ ∀ q, N ≤ q → s'.obj (base + q) = none
 | [], j, s, es, h, hF, hn => by
  simp only [runOps, Qa, Qj] at h
  obtain ⟨rfl, rfl⟩ := h
  refine ⟨⟨fun k c h => by simp at h, rfl⟩, rfl, rfl, fun q hq => hF.2 q ?_⟩
  simp only [countMk] at hn
  omega
 | c :: cs, j, s, es, h, hF, hn => by
  obtain ⟨e, es', he, hr', rfl⟩ := runOps_step h
  rw [countMk_cons] at hn
  obtain ⟨f1, f2, f3⟩ := free_step hF (by omega) he
  obtain ⟨⟨i1, i4⟩, i2, i3, i5⟩ := run_facts cs _ (e.on s) es' hr' f3 (by omega)
  obtain ⟨m1, m2, m4, m3⟩ := eff_in he
  refine ⟨⟨fun k c' hk => ?_, by simp [i4]⟩, ?_, ?_, i5⟩
  ·cases k with
   | zero =>
    simp only [List.getElem?_cons_zero, Qa] at hk
    subst hk
    have g0 : ∀ {β : Type} (F : Eff → (Nat → β) → (Nat → β)) (x : Nat → β), ap F (e :: es') (fun q => decide (q < 0)) 0 x = x := fun F x => by
     simp only [ap, Nat.not_lt_zero, decide_false, Qm, if_false]
     have : ∀ (es : List Eff) (i : Nat) (y : Nat → _), ap F es (fun q => false) i y = y := by
      intro es
      induction es with
      | nil => intro i y; rfl
      | cons e es ih => intro i y; simp only [ap, Qm, if_false]; exact ih (i + 1) y
     exact this _ _ _
    refine ⟨e, rfl, m3, ?_, fun i hi => ?_, by rw [m4]; simp [countMk], m2⟩
    ·show effF call (ap Eff.getF _ _ _ _) (ap Eff.objF _ _ _ _) _ _ = _
     rw [g0, g0]
     simpa [countMk] using he
    ·rcases hi with ⟨hw, hi⟩ | hi
     ·have := m1 hw i hi
      rcases Qn i (base + j) with h | h
      ·omega
      ·obtain ⟨q, rfl⟩ : ∃ q, i = base + q := ⟨i - base, by omega⟩
       rw [hF.2 q (by omega)] at this; cases this
     ·obtain ⟨q, h2, h3⟩ := (new_iff e i).1 hi
      rw [m4] at h3
      simp only [List.take_succ_cons, List.take_zero, countMk]
      omega
   | succ k =>
    rw [List.getElem?_cons_succ] at hk
    obtain ⟨e', n1, n2, n3, n4, n5, n6⟩ := i1 k c' hk
    have gs : ∀ {β : Type} (F : Eff → (Nat → β) → (Nat → β)) (x : Nat → β), ap F (e :: es') (fun q => decide (q < k + 1)) 0 x = ap F es' (fun q => decide (q < k)) 0 (F e x) := fun F x => by
     simp only [ap, Nat.zero_lt_succ, decide_true, if_true]
     rw [ap_shift]
     congr 1
     funext q
     simp
    have hcount : ∀ m, base + (j + c.op.nmk) + countMk (cs.take m) = base + j + countMk ((c :: cs).take (m + 1)) := fun m => by
     rw [List.take_succ_cons, countMk_cons]; omega
    refine ⟨e', by simpa using n1, n2, ?_, fun i hi => ?_, by rw [← hcount]; exact n5, n6⟩
    ·show effF call (ap Eff.getF _ _ _ _) (ap Eff.objF _ _ _ _) _ _ = _
     rw [gs, gs, ← f1, ← f2, ← hcount]
     exact n3
    ·have := n4 i hi
     rwa [hcount] at this
  ·rw [i2]
   show _ = ap Eff.getF _ _ _ _
   simp only [ap, if_true]
   rw [ap_shift, f1]
  ·rw [i3]
   show _ = ap Eff.objF _ _ _ _
   simp only [ap, if_true]
   rw [ap_shift, f2]
theorem countMk_take_le : ∀ (cs : List CO) (i j : Nat), i ≤ j → countMk (cs.take i) ≤ countMk (cs.take j)
 | [], i, j, _ => by simp [countMk]
 | c :: cs, 0, j, _ => by simp [countMk]
 | c :: cs, i + 1, 0, h => by omega
 | c :: cs, i + 1, j + 1, h => by
  simp only [List.take_succ_cons, countMk_cons]
  have := countMk_take_le cs i j (by omega)
  omega
theorem countMk_take_succ : ∀ {cs : List CO} {k : Nat} {c : CO}, cs[k]? = some c → countMk (cs.take (k + 1)) = countMk (cs.take k) + c.op.nmk
 | c' :: cs, 0, c, h => by simp only [List.getElem?_cons_zero, Qa] at h; subst h; simp [countMk]
 | c' :: cs, k + 1, c, h => by
  rw [List.getElem?_cons_succ] at h
  have := countMk_take_succ h
  simp only [List.take_succ_cons, countMk_cons] at this ⊢
  omega
 | [], k, c, h => by simp at h
section
variable {P : Program} {tab : Tab} {call : CallF} {ds : List Deferred}
theorem clash_false {e e' : Eff} (h : clash e e' = false) (i : Nat) : ¬ (i ∈ e.ids ∧ tO e' i) ∧ ¬ (i ∈ e'.ids ∧ tO e i) := by
 unfold clash at h
 simp only [Bool.or_eq_false_iff, Bool.and_eq_false_iff] at h
 obtain ⟨⟨h1, h2⟩, h3⟩ := h
 have ov : i ∈ e.ids → i ∈ e'.ids → e.wr = false ∧ e'.wr = false := fun a b => by
  rcases h1 with h1 | h1
  ·exact h1
  ·exfalso
   have := List.any_eq_false.1 h1 i a
   simp only [List.contains_iff_mem, b, not_true_eq_false] at this
 refine ⟨fun ⟨a, b⟩ => ?_, fun ⟨a, b⟩ => ?_⟩
 ·rcases b with ⟨b1, b2⟩ | b
  ·have := (ov a b2).2; rw [b1] at this; cases this
  ·exact List.any_eq_false.1 h2 i a b
 ·rcases b with ⟨b1, b2⟩ | b
  ·have := (ov b2 a).1; rw [b1] at this; cases this
  ·exact List.any_eq_false.1 h3 i a b
structure Setup (P : Program) (tab : Tab) (call : CallF) (nt : Nat) (ops : Array Oper) (cs : List CO) (es : List Eff) (base : Nat) (get0 : Nat → V) (obj0 : Nat → Option Obj) : Prop where
 comp : CompOps P tab nt ops ops.toList cs
 pre : ∀ i c, cs[i]? = some c → c.pre = (presOf ops.toList []).getD i 0
 slots : slotsOk cs 0 = true
 edges : edgesOk ops.toList 0 = true
 race : noRace cs es 0 = true
 facts : Facts call base 0 cs es get0 obj0
 free : ∀ q, obj0 (base + q) = none
def Closed (ops : Array Oper) (S : Nat → Bool) : Prop := ∀ i o, S i = true → ops[i]? = some o → ∀ e ∈ o.after, Region.binds .any e = true → S e.on = true
theorem Setup.sizes {nt : Nat} {ops : Array Oper} {cs : List CO} {es : List Eff} {base : Nat} {get0 : Nat → V} {obj0 : Nat → Option Obj} (hS : Setup P tab call nt ops cs es base get0 obj0) : ops.size = cs.length := by
 have := hS.comp.get.1
 simpa using this
theorem ahead {nt : Nat} {ops : Array Oper} {cs : List CO} {es : List Eff} {base : Nat} {get0 : Nat → V} {obj0 : Nat → Option Obj} (hS : Setup P tab call nt ops cs es base get0 obj0) {S : Nat → Bool} (hcl : Closed ops S) :
  ∀ (n i : Nat), i < n → ∀ o, ops[i]? = some o → (∀ e ∈ o.after, Region.binds .any e = true → S e.on = true) → ∀ j, ((presOf ops.toList []).getD i 0).testBit j = true → S j = true := by
 intro n
 induction n with
 | zero => intro i hi; omega
 | succ n ih =>
  intro i hi o ho hready j hj
  have h2 := (presOf_get ops.toList []).2 i o (by simpa using ho) j (by simpa using hj)
  obtain ⟨e, he, hb, h⟩ := h2
  have hon := hready e he hb
  rcases h with h | h
  ·rw [← h]; exact hon
  ·have hlt := edgesOk_get hS.edges (i := i) (by simpa using ho) e he hb
   have hlt : e.on < i := by simpa using hlt
   have hisz : i < ops.size := (Array.getElem?_eq_some_iff.1 ho).1
   obtain ⟨o', ho'⟩ : ∃ o', ops[e.on]? = some o' := ⟨ops[e.on]'(by omega), Array.getElem?_eq_getElem (by omega)⟩
   exact ih e.on (by omega) o' ho' (hcl e.on o' hon ho') j h
theorem next_eff {nt : Nat} {ops : Array Oper} {cs : List CO} {es : List Eff} {base : Nat} {get0 : Nat → V} {obj0 : Nat → Option Obj} (hS : Setup P tab call nt ops cs es base get0 obj0) {S : Nat → Bool} (hcl : Closed ops S) (hSn : ∀ i, S i = true → i < ops.size) {i : Nat} {c : CO} (hi : cs[i]? = some c) {o : Oper} (ho : ops[i]? = some o) (hSi : S i = false)
  (hready : ∀ e ∈ o.after, Region.binds .any e = true → S e.on = true) :
  ∃ e, es[i]? = some e ∧ effF call (apG es S 0 get0) (apO es S 0 obj0) c (base + countMk (cs.take i)) = some e ∧ (∀ k, k < e.nws.length → apO es S 0 obj0 (base + countMk (cs.take i) + k) = none) ∧ (∃ f, apO es S 0 obj0 f = none) ∧
   apG es (fun q => S q || q == i) 0 get0 = e.getF (apG es S 0 get0) ∧ apO es (fun q => S q || q == i) 0 obj0 = e.objF (apO es S 0 obj0) := by
 obtain ⟨e, h1, h2, h3, h4, h5, h6⟩ := hS.facts.each i c hi
 simp only [Nat.add_zero] at h3 h4 h5
 have hpre : ∀ j, c.pre.testBit j = true → S j = true := fun j hj => ahead hS hcl (i + 1) i (by omega) o ho hready j (by rw [← hS.pre i c hi]; exact hj)
 have hlater : ∀ q c', i < q → cs[q]? = some c' → S q = true → c'.pre.testBit i = false := fun q c' hq hc' hs => by
  cases hb : c'.pre.testBit i with
  | false => rfl
  | true =>
   have hqs := hSn q hs
   have hoq : ops[q]? = some ops[q] := Array.getElem?_eq_getElem hqs
   have := ahead hS hcl (q + 1) q (by omega) _ hoq (hcl q _ hs hoq) i (by rw [← hS.pre q c' hc']; exact hb)
   rw [hSi] at this; cases this
 have cof : ∀ (q : Nat) (e' : Eff), es[q]? = some e' → ∃ c', cs[q]? = some c' ∧ e'.dst = c'.dst ∧ (∀ i, tO e' i → i < base + countMk (cs.take (q + 1))) ∧ e'.fresh = base + countMk (cs.take q) ∧ e'.nws.length ≤ c'.op.nmk := fun q e' he' => by
  have hl := hS.facts.len
  have hq : q < cs.length := by
   rcases Qn q es.length with h | h
   ·omega
   ·rw [Qe h] at he'; cases he'
  obtain ⟨e2, k1, k2, k3, k4, k5, k6⟩ := hS.facts.each q _ (Qd hq)
  rw [he'] at k1
  simp only [Qa] at k1
  subst k1
  simp only [Nat.add_zero] at k4 k5
  exact ⟨_, Qd hq, k2, k4, k5, k6⟩
 have apart1 : ∀ q e', es[q]? = some e' → S q ≠ decide (q < i) → (∀ t, t ∈ c.looks → ¬ tG e' t) ∧ (∀ x, x ∈ e.ids → ¬ tO e' x) := fun q e' he' hne => by
  obtain ⟨c', k1, k2, k3, k4, k5⟩ := cof q e' he'
  rcases Nat.lt_trichotomy q i with hq | hq | hq
  ·have hsq : S q = false := by
    cases hs : S q with
    | false => rfl
    | true => exfalso; apply hne; simp [hs, hq]
   have hb : c.pre.testBit q = false := by
    cases hb : c.pre.testBit q with
    | false => rfl
    | true => have := hpre q hb; rw [hsq] at this; cases this
   have hs := slotsOk_get cs 0 hS.slots q i c' c hq k1 hi
   have hr := noRace_get cs es 0 hS.race q i c e' e hq hi he' h1
   simp only [Nat.zero_add, hb, Qm, false_or] at hs hr
   refine ⟨fun t ht hg => ?_, fun x hx hxo => (clash_false hr x).2 ⟨hx, hxo⟩⟩
   unfold tG at hg
   rw [k2] at hg
   unfold apartC at hs
   simp only [hg, Qi, Bool.not_eq_true'] at hs
   have := hs.1.1
   rw [List.contains_iff_mem.2 ht] at this; cases this
  ·exfalso; apply hne; subst hq; simp [hSi]
  ·have hsq : S q = true := by
    cases hs : S q with
    | true => rfl
    | false => exfalso; apply hne; rw [hs]; simp; omega
   have hb := hlater q c' hq k1 hsq
   have hs := slotsOk_get cs 0 hS.slots i q c c' hq hi k1
   have hr := noRace_get cs es 0 hS.race i q c' e e' hq k1 h1 he'
   simp only [Nat.zero_add, hb, Qm, false_or] at hs hr
   refine ⟨fun t ht hg => ?_, fun x hx hxo => (clash_false hr x).1 ⟨hx, hxo⟩⟩
   unfold tG at hg
   rw [k2] at hg
   unfold apartC at hs
   simp only [hg, Qi, Bool.not_eq_true'] at hs
   have := hs.2
   rw [List.contains_iff_mem.2 ht] at this; cases this
 refine ⟨e, h1, ?_, fun k hk => ?_, ⟨base + countMk cs, ?_⟩, ?_, ?_⟩
 ·refine effF_congr (fun t ht => ?_) h3 (fun x hx => ?_)
  ·refine ap_agree getF_congr getF_un es 0 _ _ (fun q e' he' hg => ?_) rfl
   rw [Nat.zero_add]
   exact Classical.byContradiction fun hne => (apart1 q e' he' hne).1 t ht hg
  ·refine ap_agree objF_congr objF_un es 0 _ _ (fun q e' he' hg => ?_) rfl
   rw [Nat.zero_add]
   exact Classical.byContradiction fun hne => (apart1 q e' he' hne).2 x hx hg
 ·-- its own number is not given yet
  have h7 := countMk_take_succ hi
  have : apO es S 0 obj0 (base + countMk (cs.take i) + k) = obj0 (base + countMk (cs.take i) + k) := by
   refine ap_none objF_congr objF_un es 0 obj0 (fun q e' he' hs hto => ?_)
   rw [Nat.zero_add] at hs
   obtain ⟨c', k1, k2, k3, k4, k5⟩ := cof q e' he'
   rcases Nat.lt_trichotomy q i with hq | hq | hq
   ·have h8 := k3 _ hto
    have h9 := countMk_take_le cs (q + 1) i (by omega)
    omega
   ·subst hq; rw [hSi] at hs; cases hs
   ·have hb := hlater q c' hq k1 hs
    have hr := noRace_get cs es 0 hS.race i q c' e e' hq k1 h1 he'
    simp only [Nat.zero_add, hb, Qm, false_or] at hr
    have hnew : tO e (base + countMk (cs.take i) + k) := .inr ((new_iff _ _).2 ⟨k, hk, by rw [h5]⟩)
    rcases hto with ⟨hw, hx⟩ | hx
    ·exact (clash_false hr _).2 ⟨hx, hnew⟩
    ·obtain ⟨k', m1, m2⟩ := (new_iff _ _).1 hx
     have h9 := countMk_take_le cs (i + 1) q (by omega)
     omega
  rw [this, Nat.add_assoc]
  exact hS.free _
 ·have : apO es S 0 obj0 (base + countMk cs) = obj0 (base + countMk cs) := by
   refine ap_none objF_congr objF_un es 0 obj0 (fun q e' he' hs hto => ?_)
   obtain ⟨c', k1, k2, k3, k4, k5⟩ := cof q e' he'
   have h6 := k3 _ hto
   have h7 := countMk_take_le cs (q + 1) (max (q + 1) cs.length) (by omega)
   have h8 : cs.take (max (q + 1) cs.length) = cs := List.take_of_length_le (by omega)
   rw [h8] at h7
   omega
  rw [this]
  exact hS.free _
 ·funext t
  refine ap_extend getF_congr getF_un h1 hSi t get0 (fun q e' hq he' hs t1 t2 => ?_)
  obtain ⟨c', k1, k2, k3, k4, k5⟩ := cof q e' he'
  have hb := hlater q c' hq k1 hs
  have hsl := slotsOk_get cs 0 hS.slots i q c c' hq hi k1
  simp only [Nat.zero_add, hb, Qm, false_or] at hsl
  unfold tG at t1 t2
  rw [k2] at t1
  rw [h2] at t2
  unfold apartC at hsl
  simp [t1, t2] at hsl
 ·funext t
  refine ap_extend objF_congr objF_un h1 hSi t obj0 (fun q e' hq he' hs t1 t2 => ?_)
  obtain ⟨c', k1, k2, k3, k4, k5⟩ := cof q e' he'
  have hb := hlater q c' hq k1 hs
  have hr := noRace_get cs es 0 hS.race i q c' e e' hq k1 h1 he'
  simp only [Nat.zero_add, hb, Qm, false_or] at hr
  obtain ⟨r1, r2⟩ := clash_false hr t
  rcases t2 with ⟨w2, x2⟩ | x2
  ·exact r1 ⟨x2, t1⟩
  ·rcases t1 with ⟨w1, x1⟩ | x1
   ·exact r2 ⟨x1, .inr x2⟩
   ·obtain ⟨k1', m1, m2⟩ := (new_iff _ _).1 x1
    obtain ⟨k2', m3, m4⟩ := (new_iff _ _).1 x2
    have h7 := countMk_take_le cs (i + 1) q (by omega)
    have h8 := countMk_take_succ hi
    omega
theorem any_ops {rd : Option Nat} {dp : Nat} (hB : BodyOk P tab) (hCall : CallOk P tab call) {nt : Nat} {ops : Array Oper} {cs : List CO} {es : List Eff} {base : Nat} {get0 : Nat → V} {obj0 : Nat → Option Obj} (hS : Setup P tab call nt ops cs es base get0 obj0) {g0 : Gh} {ob0 : Nat → Option Obj} {w0 : World} {Q : Exit → Act → World → Prop}
  (hQ : ∀ g' a' w', Go1 tab nt g0 ob0 w0 ds g' (apG es (fun _ => true) 0 get0) (apO es (fun _ => true) 0 obj0) a' w' → Q .normal a' w') :
  ∀ (fuel : Nat) (listed : Array Bool) (g : Gh) (a : Act) (w : World), listed.size = ops.size → ((List.range ops.size).filter fun i => !listed.getD i false).length ≤ fuel → Closed ops (fun i => listed.getD i false) →
   Go1 tab nt g0 ob0 w0 ds g (apG es (fun i => listed.getD i false) 0 get0) (apO es (fun i => listed.getD i false) 0 obj0) a w → wpAnyIn (fen rd) dp P .any ops Q fuel listed a w := by
 have hsize := hS.sizes
 have done : ∀ (listed : Array Bool) (g : Gh) (a : Act) (w : World), (∀ i, i < ops.size → listed.getD i false = true) →
   Go1 tab nt g0 ob0 w0 ds g (apG es (fun i => listed.getD i false) 0 get0) (apO es (fun i => listed.getD i false) 0 obj0) a w → Q .normal a w := by
  intro listed g a w hall hR
  refine hQ g a w ?_
  have e1 : apG es (fun i => listed.getD i false) 0 get0 = apG es (fun _ => true) 0 get0 := by
   funext t
   refine ap_agree getF_congr getF_un es 0 _ _ (fun q e' he' _ => ?_) rfl
   rw [Nat.zero_add]
   refine hall q ?_
   rcases Qn q es.length with h | h
   ·have := hS.facts.len; omega
   ·rw [Qe h] at he'; cases he'
  have e2 : apO es (fun i => listed.getD i false) 0 obj0 = apO es (fun _ => true) 0 obj0 := by
   funext t
   refine ap_agree objF_congr objF_un es 0 _ _ (fun q e' he' _ => ?_) rfl
   rw [Nat.zero_add]
   refine hall q ?_
   rcases Qn q es.length with h | h
   ·have := hS.facts.len; omega
   ·rw [Qe h] at he'; cases he'
  rw [← e1, ← e2]
  exact hR
 have getDs : ∀ (listed : Array Bool) i, listed.size = ops.size → i < ops.size → listed.getD i true = listed.getD i false := fun listed i h1 h2 => by
  simp [Array.getElem?_eq_getElem (show i < listed.size by omega)]
 have allDone : ∀ (listed : Array Bool), listed.size = ops.size → Region.ready .any ops listed = [] → ∀ n i, i < n → i < ops.size → listed.getD i false = true := by
  intro listed hsz hr n
  induction n with
  | zero => intro i hi; omega
  | succ n ih =>
   intro i hi hlt
   cases hv : listed.getD i false with
   | true => rfl
   | false =>
    exfalso
    have : i ∈ Region.ready .any ops listed := by
     rw [mem_ready]
     refine ⟨by rw [getDs listed i hsz hlt]; exact hv, ops[i], Array.getElem?_eq_getElem hlt, fun e he hb => ?_⟩
     have hon := edgesOk_get hS.edges (i := i) (o := ops[i]) (by simp [hlt]) e he hb
     exact ih e.on (by omega) (by omega)
    rw [hr] at this; cases this
 intro fuel
 induction fuel with
 | zero =>
  intro listed g a w hsz hcnt hcl hR
  have hnil : (List.range ops.size).filter (fun i => !listed.getD i false) = [] := List.length_eq_zero_iff.1 (by omega)
  have hall : ∀ i, i < ops.size → listed.getD i false = true := fun i hi => by
   cases hv : listed.getD i false with
   | true => rfl
   | false =>
    have : i ∈ (List.range ops.size).filter (fun i => !listed.getD i false) := by rw [List.mem_filter]; exact ⟨List.mem_range.2 hi, by simp only [hv]; rfl⟩
    rw [hnil] at this; cases this
  refine ⟨?_, done listed g a w hall hR⟩
  rw [List.eq_nil_iff_forall_not_mem]
  intro i hi
  rw [mem_ready] at hi
  obtain ⟨h1, o, ho, _⟩ := hi
  have hlt := (Array.getElem?_eq_some_iff.1 ho).1
  rw [getDs listed i hsz hlt, hall i hlt] at h1
  cases h1
 | succ fuel ih =>
  intro listed g a w hsz hcnt hcl hR
  refine ⟨fun hr => done listed g a w (fun i hi => allDone listed hsz hr (i + 1) i (by omega) hi) hR, fun i hi => ?_⟩
  rw [mem_ready] at hi
  obtain ⟨h1, o, ho, hready⟩ := hi
  have hlt := (Array.getElem?_eq_some_iff.1 ho).1
  rw [getDs listed i hsz hlt] at h1
  obtain ⟨c, hc⟩ : ∃ c, cs[i]? = some c := ⟨cs[i]'(by omega), Qd (by omega)⟩
  obtain ⟨o', frz, m1, m2, m3, m4, m5⟩ := hS.comp.get.2 i c hc
  have : o' = o := by
   rw [Array.getElem?_toList, ho] at m1
   exact (Option.some.inj m1).symm
  subst this
  obtain ⟨e, n1, n2, n3, n4, n5, n6⟩ := next_eff hS hcl (fun q hq => by
   rcases Qn q ops.size with h | h
   ·exact h
   ·rw [Array.getD_eq_getD_getElem?, Array.getElem?_eq_none (by omega)] at hq; cases hq) hc ho h1 hready
  refine op_step hB hCall ho m2 m3 m4 m5 hR n4 n3 n2 (fun g' a' w' hR' => ?_)
  have hS' : ∀ q, (listed.setIfInBounds i true).getD q false = (listed.getD q false || q == i) := fun q => by
   by_cases e : i = q
   ·subst e
    simp [show i < listed.size by omega]
   ·rw [getD_set_ne false e]
    have : (q == i) = false := by simp; omega
    rw [this, Bool.or_false]
  have hSf : (fun q => (listed.setIfInBounds i true).getD q false) = fun q => listed.getD q false || q == i := funext hS'
  refine ih (listed.setIfInBounds i true) g' a' w' (by simp [hsz]) ?_ ?_ ?_
  ·-- one less
   have hmem : i ∈ (List.range ops.size).filter fun i => !listed.getD i false := by rw [List.mem_filter]; exact ⟨List.mem_range.2 hlt, by simp only [h1]; rfl⟩
   have hsub : ((List.range ops.size).filter fun q => !(listed.setIfInBounds i true).getD q false) = ((List.range ops.size).filter fun q => !listed.getD q false).filter fun q => !(q == i) := by
    rw [List.filter_filter]
    congr 1
    funext q
    rw [hS' q]
    cases listed.getD q false <;> cases (q == i) <;> rfl
   rw [hsub]
   have hlt2 : (((List.range ops.size).filter fun q => !listed.getD q false).filter fun q => !(q == i)).length < ((List.range ops.size).filter fun q => !listed.getD q false).length := by
    rw [List.length_filter_lt_length_iff_exists]
    exact ⟨i, hmem, by simp⟩
   omega
  ·rw [hSf]
   intro q oq hq hoq e' he' hb
   simp only [Bool.or_eq_true, beq_iff_eq] at hq ⊢
   rcases hq with hq | rfl
   ·exact .inl (hcl q oq hq hoq e' he' hb)
   ·rw [ho] at hoq
    cases hoq
    exact .inl (hready e' he' hb)
  ·rw [hSf, n5, n6]
   exact hR'
theorem region_any {rd : Option Nat} {dp : Nat} (hB : BodyOk P tab) (hCall : CallOk P tab call) (hm : P.follows .mixedOrders = true) {id : Nat} {ops : Array Oper} {nt : Nat} {cs : List CO} (hc : CompOps P tab nt ops ops.toList cs) (hpre : ∀ i c, cs[i]? = some c → c.pre = (presOf ops.toList []).getD i 0)
  (hsl : slotsOk cs 0 = true) (hed : edgesOk ops.toList 0 = true) {s s' : St} (hr : runRegion call true cs s = some s') {g : Gh} {a : Act} {w : World} (hR : Rel tab nt g s.get s.obj a w) (hds : a.defers = ds)
  {Q : Exit → Act → World → Prop} (hQ : ∀ g' a' w', Go1 tab nt g s.obj w ds g' s'.get s'.obj a' w' → Q .normal a' w') : (Code.region id ops true).wpIn (fen rd) dp P Q a w := by
 unfold runRegion at hr
 simp only [if_true] at hr
 split at hr
 ·rename_i s2 es hrun
  split at hr
  ·rename_i hrace
   simp only [Qa] at hr
   subst hr
   have hobj : (⟨s.tmps, s.heap ++ List.replicate (countMk cs) none⟩ : St).obj = s.obj := by
    funext q
    unfold St.obj
    simp only
    rcases Qn q s.heap.length with h | h
    ·rw [List.getElem?_append_left h]
    ·rw [List.getElem?_append_right h, Qe h, List.getElem?_replicate]
     split <;> rfl
   have hfree : ∀ q, s.obj (s.heap.length + q) = none := fun q => by
    unfold St.obj
    rw [Qe (by omega)]; rfl
   obtain ⟨f1, f2, f3, f4⟩ := run_facts (N := countMk cs) cs 0 _ es hrun ⟨by simp, fun q _ => by rw [hobj]; exact hfree q⟩ (Nat.zero_add _)
   rw [hobj] at f1 f3
   have hS : Setup P tab call nt ops cs es s.heap.length s.get s.obj := ⟨hc, hpre, hsl, hed, hrace, f1, hfree⟩
   refine wpIn_region_any hm ?_
   have hR' : Rel tab nt g s.get s.obj a w.drew := ⟨fun t => (hR.tmp t).drew, hR.size, hR.heap.drew⟩
   have hempty : ∀ {β : Type} (F : Eff → (Nat → β) → (Nat → β)) (x : Nat → β) (es : List Eff) (i : Nat), ap F es (fun i => (Array.replicate ops.size false).getD i false) i x = x := by
    intro β F x es
    induction es with
    | nil => intro i; rfl
    | cons e es ih =>
     intro i
     have : (Array.replicate ops.size false).getD i false = false := by
      rw [Array.getD_eq_getD_getElem?, Array.getElem?_replicate]
      split <;> rfl
     simp only [ap, this, Qm, if_false]
     exact ih (i + 1)
   have hno : ∀ i, (Array.replicate ops.size false).getD i false = false := fun i => by
    rw [Array.getD_eq_getD_getElem?, Array.getElem?_replicate]
    split <;> rfl
   refine any_ops (ds := ds) hB hCall hS (g0 := g) (ob0 := s.obj) (w0 := w) (fun g' a' w' h => hQ g' a' w' ?_) ops.size _ g a w.drew (by simp) ?_ ?_ ?_
   ·rw [f2, f3]; exact h
   ·exact Nat.le_trans (List.length_filter_le _ _) (by simp)
   ·intro i o hi
    simp only [hno] at hi
    cases hi
   ·show Go1 tab nt g s.obj w ds g (ap Eff.getF _ _ _ _) (ap Eff.objF _ _ _ _) a w.drew
    rw [hempty, hempty]
    exact ⟨hR', (Post.drew hR.heap).evo, hds⟩
  ·cases hr
 ·cases hr
end
open Go
open Go.RowKit (Below)
section
variable {tab : Tab} {ds : List Deferred}
theorem look_keep (s : St) : ∀ (l : List Nat) (t : Nat), look (keepTmps s l) t = s.get t ∨ look (keepTmps s l) t = .bad
 | [], t => .inr rfl
 | x :: r, t => by
  simp only [keepTmps, look_cons]
  split
  ·rename_i e; subst e; exact .inl rfl
  ·exact look_keep s r t
theorem Go1.weaken {nt : Nat} {g0 : Gh} {ob0 : Nat → Option Obj} {w0 : World} {g : Gh} {get get' : Nat → V} {obj : Nat → Option Obj} {a : Act} {w : World} (h : Go1 tab nt g0 ob0 w0 ds g get obj a w) (hg : ∀ t, get' t = get t ∨ get' t = .bad) : Go1 tab nt g0 ob0 w0 ds g get' obj a w :=
 ⟨⟨fun t => by
  rcases hg t with e | e
  ·rw [e]; exact h.rel.tmp t
  ·rw [e]; simp only [VRel], h.rel.size, h.rel.heap⟩, h.evo, h.df⟩
theorem obj_push {tm tm' : List (Nat × V)} (h : List (Option Obj)) (o : Obj) : (⟨tm, h ++ [some o]⟩ : St).obj = updO (⟨tm', h⟩ : St).obj h.length (some o) := by
 funext j
 unfold St.obj updO
 simp only
 rcases Nat.lt_trichotomy j h.length with hj | hj | hj
 ·rw [List.getElem?_append_left hj, if_neg (by omega)]
 ·subst hj; simp
 ·rw [Qe (by simp; omega), if_neg (by omega), Qe (by omega)]
theorem own_empty {g : Gh} {obj : Nat → Option Obj} {w : World} {id sz : Nat} (h : obj id = some (.tok 0 sz)) : VRel tab g obj w (.own id 0 sz []) (.slice none 0 0) := by
 refine VRel_own ?_ h ⟨none, 0, rfl, .inl rfl⟩
 simp only [DRel]
 exact ⟨none, 0, rfl, Nat.le_refl _, by simp, by simp⟩
theorem ownSlot_ok {nt : Nat} {g0 : Gh} {ob0 : Nat → Option Obj} {w0 : World} {g : Gh} {s : St} {a : Act} {w : World} (h : Go1 tab nt g0 ob0 w0 ds g s.get s.obj a w) (t : Nat) : ∃ g', Go1 tab nt g0 ob0 w0 ds g' (ownSlot s t).get (ownSlot s t).obj a w := by
 unfold ownSlot
 cases hv : s.get t with
 | nil sz =>
  simp only
  have hf : s.obj s.heap.length = none := by unfold St.obj; rw [Qe (Nat.le_refl _)]; rfl
  have hp := app_same (tab := tab) h.rel.heap (id := s.heap.length) (ver := 0) (sz := sz) (.inl hf) 0 0 0 (.inr rfl)
  have hobj : (⟨(t, .own s.heap.length 0 sz []) :: s.tmps, s.heap ++ [some (.tok 0 sz)]⟩ : St).obj = updO s.obj s.heap.length (some (.tok 0 sz)) := obj_push (tm' := s.tmps) s.heap _
  refine ⟨_, ⟨fun t' => ?_, h.rel.size, by rw [hobj]; exact hp.heap⟩, by rw [hobj]; exact h.evo.trans hp.evo, h.df⟩
  rw [hobj]
  simp only [St.get, look_cons]
  split
  ·rename_i e
   subst e
   have := h.rel.tmp t
   rw [hv] at this
   simp only [VRel] at this
   rw [this]
   exact own_empty (updO_same _ _ _)
  ·exact hp.vals _ _ (h.rel.tmp t')
 | _ => exact ⟨g, h⟩
theorem post_retell {g : Gh} {obj : Nat → Option Obj} {w : World} (hH : HRel tab g obj w) {id : Nat} {cs cs' : List V} (ho : obj id = some (.box cs)) (hl : cs'.length = cs.length) (hc : ∀ us, CList tab g obj w cs us → CList tab g obj w cs' us) :
  Post tab g obj w g (updO obj id (some (.box cs'))) w := by
 have hat : updP g.at_ id (g.at_ id) = g.at_ := by funext j; unfold updP; split <;> simp_all
 have howns : ∀ b q, owns ⟨updP g.at_ id (g.at_ id), g.im⟩ (updO obj id (some (.box cs'))) id b q → owns g obj id b q := fun b q h => by
  unfold owns at *
  simp only [updO_same, updP_same] at h
  rw [ho]; exact h
 obtain ⟨h1, h2, h3⟩ := step1 (w' := w) hH id (.box cs') (g.at_ id) g.im rfl rfl rfl (Nat.le_refl _) (fun _ _ => .refl _) (fun b q h => h) (fun b q h => .inl h)
  (fun b q h => ⟨.inl (howns b q h), hH.imm id b q (howns b q h)⟩)
  (fun b q h hm => hH.frz id b q (howns b q h) (fun kvs e => by rw [ho] at e; cases e))
  (.box (.inl ⟨cs, ho⟩) (.inl ⟨cs', rfl⟩) _)
  (fun hv => by
   obtain ⟨k1, us, k2, k3⟩ := hH.ob id _ ho
   exact ⟨by omega, us, (hc us k2).of_vals hv, k3⟩)
 rw [hat] at h1 h2 h3
 exact ⟨h1, h2, h3⟩
theorem CList.setv {g : Gh} {obj : Nat → Option Obj} {w : World} : ∀ {cs : List V} {us : List Value} {i : Nat} {x : V} {u : Value}, CList tab g obj w cs us → us[i]? = some u → VRel tab g obj w x u → CList tab g obj w (cs.set i x) us
 | [], [], i, x, u, h, hi, hx => by simpa using h
 | c :: cs, v :: us, 0, x, u, h, hi, hx => by
  simp only [List.getElem?_cons_zero, Qa] at hi
  subst hi
  simp only [CList] at h
  simp only [List.set_cons_zero, CList]
  exact ⟨hx, h.2.1, h.2.2⟩
 | c :: cs, v :: us, i + 1, x, u, h, hi, hx => by
  simp only [CList] at h
  simp only [List.set_cons_succ, CList]
  exact ⟨h.1, h.2.1, CList.setv h.2.2 (by simpa using hi) hx⟩
 | [], _ :: _, _, _, _, h, _, _ => by simp only [CList] at h
 | _ :: _, [], _, _, _, h, _, _ => by simp only [CList] at h
theorem arr_none {g : Gh} {obj : Nat → Option Obj} {w : World} (hH : HRel tab g obj w) {id : Nat} (sz : Nat) (hf : obj id = none) :
  ∃ g', Post tab g obj w g' (updO obj id (some (.arr 0 sz []))) w ∧ VRel tab g' (updO obj id (some (.arr 0 sz []))) w (.arr id 0 0 0) (.slice none 0 0) := by
 have hown : ∀ b q, ¬ owns ⟨updP g.at_ id ⟨0, 0, 0⟩, g.im⟩ (updO obj id (some (.arr 0 sz []))) id b q := fun b q h => by
  unfold owns at h
  simp only [updO_same, updP_same] at h
  omega
 obtain ⟨k1, k2, k3⟩ := step1 (w' := w) hH id (.arr 0 sz []) ⟨0, 0, 0⟩ g.im rfl rfl rfl (Nat.le_refl _) (fun _ _ => .refl _) (fun _ _ h => h) (fun _ _ h => .inl h)
  (fun b q h => absurd h (hown b q))
  (fun b q h _ => absurd h (hown b q))
  (.fresh hf _ _ _)
  (fun hv => ⟨fun r hr => (by cases hr), by simp, fun q hq => absurd hq (Nat.not_lt_zero _), fun i r q x hi _ => by simp at hi⟩)
 refine ⟨_, ⟨k1, k2, k3⟩, ?_⟩
 simp only [VRel, updO_same, updP_same]
 exact ⟨⟨_, _, rfl, Nat.le_refl _⟩, 0, sz, _, rfl, Nat.le_refl _, fun _ => ⟨by simp, _, _, rfl, .inl rfl⟩⟩
theorem ownBox_ok {nt : Nat} {g0 : Gh} {ob0 : Nat → Option Obj} {w0 : World} {g : Gh} {s : St} {a : Act} {w : World} (h : Go1 tab nt g0 ob0 w0 ds g s.get s.obj a w) (t : Nat × Nat) : ∃ g', Go1 tab nt g0 ob0 w0 ds g' (ownBox s t).get (ownBox s t).obj a w := by
 unfold ownBox
 cases hv : s.get t.1 with
 | ptr id off =>
  simp only
  cases ho : s.obj id with
  | none => exact ⟨g, h⟩
  | some ob =>
   cases ob with
   | box cs =>
    simp only
    cases hc : cs[off + t.2]? with
    | none => exact ⟨g, h⟩
    | some cv =>
     cases cv with
     | nil sz =>
      simp only
      have hf : s.obj s.heap.length = none := by unfold St.obj; rw [Qe (Nat.le_refl _)]; rfl
      have hlt : id < s.heap.length := obj_lt (by rw [ho]; rfl)
      have hp := app_same (tab := tab) h.rel.heap (id := s.heap.length) (ver := 0) (sz := sz) (.inl hf) 0 0 0 (.inr rfl)
      have ho' : updO s.obj s.heap.length (some (.tok 0 sz)) id = some (.box cs) := by rw [updO_ne _ _ (by omega)]; exact ho
      have hq := post_retell (tab := tab) hp.heap (cs' := cs.set (off + t.2) (.own s.heap.length 0 sz [])) ho' (by simp) (fun us hus => by
       obtain ⟨u, k1, k2, k3⟩ := hus.get hc
       refine hus.setv k1 ?_
       simp only [VRel] at k2
       rw [k2]
       exact own_empty (updO_same _ _ _))
      have hobj : (⟨s.tmps, s.heap.set id (some (.box (cs.set (off + t.2) (.own s.heap.length 0 sz [])))) ++ [some (.tok 0 sz)]⟩ : St).obj = updO (updO s.obj s.heap.length (some (.tok 0 sz))) id (some (.box (cs.set (off + t.2) (.own s.heap.length 0 sz [])))) := by
       rw [obj_push (tm' := s.tmps), obj_set (tm' := s.tmps) hlt, List.length_set]
       funext j
       unfold updO
       split
       ·split
        ·omega
        ·rfl
       ·rfl
      refine ⟨_, ⟨fun t' => ?_, h.rel.size, by rw [hobj]; exact hq.heap⟩, by rw [hobj]; exact (h.evo.trans hp.evo).trans hq.evo, h.df⟩
      rw [hobj]
      exact hq.vals _ _ (hp.vals _ _ (h.rel.tmp t'))
     | _ => exact ⟨g, h⟩
   | _ => exact ⟨g, h⟩
 | nil sz =>
  simp only
  have hf : s.obj s.heap.length = none := by unfold St.obj; rw [Qe (Nat.le_refl _)]; rfl
  obtain ⟨g', hp, hv'⟩ := arr_none (tab := tab) h.rel.heap (id := s.heap.length) sz hf
  have hobj : (⟨(t.1, .arr s.heap.length 0 0 0) :: s.tmps, s.heap ++ [some (.arr 0 sz [])]⟩ : St).obj = updO s.obj s.heap.length (some (.arr 0 sz [])) := obj_push (tm' := s.tmps) s.heap _
  refine ⟨g', ⟨fun t' => ?_, h.rel.size, by rw [hobj]; exact hp.heap⟩, by rw [hobj]; exact h.evo.trans hp.evo, h.df⟩
  rw [hobj]
  simp only [St.get, look_cons]
  split
  ·rename_i e
   subst e
   have := h.rel.tmp t.1
   rw [hv] at this
   simp only [VRel] at this
   rw [this]
   exact hv'
  ·exact hp.vals _ _ (h.rel.tmp t')
 | _ => exact ⟨g, h⟩
theorem datC_rel {g : Gh} {obj : Nat → Option Obj} {w : World} {x : V} {v : Value} (h : VRel tab g obj w x v) : VRel tab g obj w (datC x) v := by
 cases x with
 | nil sz =>
  simp only [datC, VRel, DRel] at *
  subst h
  exact ⟨none, 0, rfl, Nat.le_refl _, by simp, .inl trivial⟩
 | own id ver sz xs => simp only [datC, VRel] at *; exact h.1
 | _ => exact h
theorem datV_rel {g : Gh} {obj : Nat → Option Obj} {w : World} {x : V} {v : Value} (h : VRel tab g obj w x v) : VRel tab g obj w (datV x) v := by
 cases x with
 | agg cs =>
  simp only [datV, VRel] at *
  obtain ⟨vs, h1, h2⟩ := h
  refine ⟨vs, h1, ?_⟩
  have : ∀ (cs : List V) (vs : List Value), CList tab g obj w cs vs → CList tab g obj w (cs.map datC) vs := by
   intro cs
   induction cs with
   | nil => intro vs h; cases vs with | nil => simp [CList] | cons => simp only [CList] at h
   | cons c cs ih =>
    intro vs h
    cases vs with
    | nil => simp only [CList] at h
    | cons u us => simp only [Qb, CList] at *; exact ⟨datC_rel h.1, h.2.1, ih us h.2.2⟩
  exact this cs vs h2
 | _ => exact datC_rel h
theorem dats_ok {nt : Nat} {g0 : Gh} {ob0 : Nat → Option Obj} {w0 : World} (ann : Ann) {g : Gh} {s : St} {a : Act} {w : World} (h : Go1 tab nt g0 ob0 w0 ds g s.get s.obj a w) : Go1 tab nt g0 ob0 w0 ds g (dats ann s).get (dats ann s).obj a w := by
 have h1 : ∀ (l : List Nat) (s : St), Go1 tab nt g0 ob0 w0 ds g s.get s.obj a w → Go1 tab nt g0 ob0 w0 ds g (l.foldl datSlot s).get (l.foldl datSlot s).obj a w := by
  intro l
  induction l with
  | nil => intro s h; exact h
  | cons t l ih =>
   intro s h
   refine ih _ ⟨⟨fun t' => ?_, h.rel.size, h.rel.heap⟩, h.evo, h.df⟩
   show VRel tab g s.obj w (look ((t, datV (s.get t)) :: s.tmps) t') _
   rw [look_cons]
   split
   ·rename_i e; subst e; exact datV_rel (h.rel.tmp t)
   ·exact h.rel.tmp t'
 have h2 : ∀ (l : List (Nat × Nat)) (s : St), Go1 tab nt g0 ob0 w0 ds g s.get s.obj a w → Go1 tab nt g0 ob0 w0 ds g (l.foldl datBox s).get (l.foldl datBox s).obj a w := by
  intro l
  induction l with
  | nil => intro s h; exact h
  | cons t l ih =>
   intro s h
   refine ih _ ?_
   unfold datBox
   split
   ·rename_i id off hg
    split
    ·rename_i cs ho
     split
     ·rename_i v hv
      have hlt : id < s.heap.length := obj_lt (by rw [ho]; rfl)
      have hq := post_retell (tab := tab) h.rel.heap (cs' := cs.set (off + t.2) (datC v)) ho (by simp) (fun us hus => by
       obtain ⟨u, k1, k2, k3⟩ := hus.get hv
       exact hus.setv k1 (datC_rel k2))
      have hobj : (⟨s.tmps, s.heap.set id (some (.box (cs.set (off + t.2) (datC v))))⟩ : St).obj = updO s.obj id (some (.box (cs.set (off + t.2) (datC v)))) := obj_set (tm' := s.tmps) hlt
      refine ⟨⟨fun t' => ?_, h.rel.size, by rw [hobj]; exact hq.heap⟩, by rw [hobj]; exact h.evo.trans hq.evo, h.df⟩
      rw [hobj]
      exact hq.vals _ _ (h.rel.tmp t')
     ·exact h
    ·exact h
   ·exact h
 exact h2 _ _ (h1 _ _ h)
theorem enter_ok {nt : Nat} {g0 : Gh} {ob0 : Nat → Option Obj} {w0 : World} (ann : Ann) {g : Gh} {s : St} {a : Act} {w : World} (h : Go1 tab nt g0 ob0 w0 ds g s.get s.obj a w) : ∃ g', Go1 tab nt g0 ob0 w0 ds g' (enter ann s).get (enter ann s).obj a w := by
 have h1 : ∀ (l : List Nat) (s : St) (g : Gh), Go1 tab nt g0 ob0 w0 ds g s.get s.obj a w → ∃ g', Go1 tab nt g0 ob0 w0 ds g' (l.foldl ownSlot s).get (l.foldl ownSlot s).obj a w := by
  intro l
  induction l with
  | nil => intro s g h; exact ⟨g, h⟩
  | cons t l ih => intro s g h; obtain ⟨g', h'⟩ := ownSlot_ok h t; exact ih _ g' h'
 have h2 : ∀ (l : List (Nat × Nat)) (s : St) (g : Gh), Go1 tab nt g0 ob0 w0 ds g s.get s.obj a w → ∃ g', Go1 tab nt g0 ob0 w0 ds g' (l.foldl ownBox s).get (l.foldl ownBox s).obj a w := by
  intro l
  induction l with
  | nil => intro s g h; exact ⟨g, h⟩
  | cons t l ih => intro s g h; obtain ⟨g', h'⟩ := ownBox_ok h t; exact ih _ g' h'
 obtain ⟨g1, k1⟩ := h1 ann.own s g h
 obtain ⟨g2, k2⟩ := h2 ann.ownB _ g1 k1
 exact ⟨g2, (dats_ok ann k2).weaken fun t => look_keep _ _ t⟩
end
open Go
open Go.RowKit (Below)
section
variable {tab : Tab} {ds : List Deferred} {g : Gh} {obj obj' : Nat → Option Obj} {w : World}
mutual
theorem VRel.under {n : Nat} (ho : ∀ i, i < n → obj' i = obj i) : ∀ (x : V) (v : Value), V.under n x = true → VRel tab g obj w x v → VRel tab g obj' w x v
 | .d x, v, _, h => by simp only [VRel] at *; exact h
 | .nil _, v, _, h => by simp only [VRel] at *; exact h
 | .own id ver sz xs, v, hu, h => by
  simp only [V.under, Qh] at hu
  simp only [VRel] at *
  rw [ho id hu]; exact h
 | .arr id ver off len, v, hu, h => by
  simp only [V.under, Qh] at hu
  simp only [VRel] at *
  rw [ho id hu]; exact h
 | .ptr id off, v, hu, h => by
  simp only [V.under, Qh] at hu
  simp only [VRel] at *
  rw [ho id hu]; exact h
 | .pm id ver idx off, v, hu, h => by
  simp only [V.under, Qh] at hu
  simp only [VRel] at *
  rw [ho id hu]; exact h
 | .map id, v, hu, h => by
  simp only [V.under, Qh] at hu
  simp only [VRel] at *
  rw [ho id hu]; exact h
 | .fn key a c, v, hu, h => by
  simp only [V.under, Qi] at hu
  simp only [VRel] at *
  rcases h with ⟨fid, fs, cs, h1, h2, h3, h4, h5⟩ | ⟨id, h1, h2, h3, h4⟩
  ·exact .inl ⟨fid, fs, cs, h1, h2, VList.under ho a fs hu.1 h3, VList.under ho c cs hu.2 h4, h5⟩
  ·have hid : id < n := by
    have := hu.1
    rw [h1] at this
    simpa [V.underAll, V.under] using this
   exact .inr ⟨id, h1, h2, h3, by rw [ho id hid]; exact h4⟩
 | .agg cs, v, hu, h => by
  simp only [V.under] at hu
  simp only [VRel] at *
  obtain ⟨vs, h1, h2⟩ := h
  exact ⟨vs, h1, CList.under ho cs vs hu h2⟩
 | .tup ws, v, hu, h => by
  simp only [V.under] at hu
  simp only [VRel] at *
  obtain ⟨vs, h1, h2⟩ := h
  exact ⟨vs, h1, VList.under ho ws vs hu h2⟩
 | .bad, v, _, _ => by simp only [VRel]
theorem VList.under {n : Nat} (ho : ∀ i, i < n → obj' i = obj i) : ∀ (xs : List V) (vs : List Value), V.underAll n xs = true → VList tab g obj w xs vs → VList tab g obj' w xs vs
 | [], [], _, _ => by simp only [VList]
 | x :: xs, v :: vs, hu, h => by
  simp only [V.underAll, Qi] at hu
  simp only [VList] at *
  exact ⟨VRel.under ho x v hu.1 h.1, VList.under ho xs vs hu.2 h.2⟩
 | [], _ :: _, _, h => by simp only [VList] at h
 | _ :: _, [], _, h => by simp only [VList] at h
theorem CList.under {n : Nat} (ho : ∀ i, i < n → obj' i = obj i) : ∀ (xs : List V) (vs : List Value), V.underAll n xs = true → CList tab g obj w xs vs → CList tab g obj' w xs vs
 | [], [], _, _ => by simp only [CList]
 | x :: xs, v :: vs, hu, h => by
  simp only [V.underAll, Qi] at hu
  simp only [CList] at *
  exact ⟨VRel.under ho x v hu.1 h.1, h.2.1, CList.under ho xs vs hu.2 h.2.2⟩
 | [], _ :: _, _, h => by simp only [CList] at h
 | _ :: _, [], _, h => by simp only [CList] at h
end
theorem EList.under {n : Nat} (ho : ∀ i, i < n → obj' i = obj i) : ∀ (kvs : List (List D × V)) (es : List MapEntry), underKvs n kvs = true → EList tab g obj w kvs es → EList tab g obj' w kvs es
 | [], [], _, _ => by simp only [EList]
 | (k, x) :: r, e :: es, hu, h => by
  simp only [underKvs, Qi] at hu
  simp only [EList] at *
  exact ⟨h.1, VRel.under ho _ _ hu.1 h.2.1, EList.under ho r es hu.2 h.2.2⟩
 | [], _ :: _, _, h => by simp only [EList] at h
 | (_, _) :: _, [], _, h => by simp only [EList] at h
theorem MRel.under {n : Nat} (ho : ∀ i, i < n → obj' i = obj i) {kvs : List (List D × V)} {es : List MapEntry} {cl : Nat} (hu : underKvs n kvs = true) (h : MRel tab g obj w kvs es cl) : MRel tab g obj' w kvs es cl := by
 obtain ⟨kv, hp, hn, hb, hd, k2⟩ := h
 have m : ∀ l : List (List D × V), underKvs n l = true ↔ ∀ p ∈ l, V.under n p.2 = true := by
  intro l
  induction l with
  | nil => simp [underKvs]
  | cons p l ih => obtain ⟨k, v⟩ := p; simp [underKvs, ih]
 exact ⟨kv, hp, hn, hb, hd, EList.under ho kv _ ((m kv).2 fun p h => (m kvs).1 hu p (hp.mem_iff.1 h)) k2⟩
theorem hrel_sub (hH : HRel tab g obj w) (hown : ∀ i b o, owns g obj' i b o → owns g obj i b o) (hmap : ∀ i, (∀ kvs, obj' i ≠ some (.map kvs)) → ∀ b o, owns g obj' i b o → ∀ kvs, obj i ≠ some (.map kvs)) (hO : ∀ i o, obj' i = some o → ORel tab g obj' w (g.at_ i) o) : HRel tab g obj' w where
 ob := hO
 imm i b o h := hH.imm i b o (hown i b o h)
 one i j b o h h' := hH.one i j b o (hown i b o h) (hown j b o h')
 old i b o h := hH.old i b o (hown i b o h)
 frz i b o h hm := hH.frz i b o (hown i b o h) (hmap i hm b o h)
 imOld := hH.imOld
theorem evo_sub {g0 : Gh} {ob0 : Nat → Option Obj} {w0 : World} (h : Evo g0 ob0 w0 g obj w) (hown : ∀ i b o, owns g obj' i b o → owns g obj i b o) (hk : KEvo g0 ob0 g obj') : Evo g0 ob0 w0 g obj' w :=
 ⟨h.os, h.tape, h.output, h.size, h.blk, h.im, h.imNew, fun b o ⟨i, hi⟩ => h.ownNew b o ⟨i, hown i b o hi⟩, hk⟩
theorem kevo_some {g0 g : Gh} {ob0 obj : Nat → Option Obj} (h : KEvo g0 ob0 g obj) {i : Nat} (hi : (ob0 i).isSome = true) : (obj i).isSome = true := by
 have := h i
 cases ho : ob0 i with
 | none => rw [ho] at hi; cases hi
 | some o =>
  rw [ho] at this
  cases o with
  | box cs => rcases this.1 with ⟨c, e⟩ | ⟨c, e⟩ <;> rw [e] <;> rfl
  | cst ds => rcases this.1 with ⟨c, e⟩ | ⟨c, e⟩ <;> rw [e] <;> rfl
  | tok v sz => obtain ⟨v', sz', e⟩ := this; rw [e]; rfl
  | arr v sz xs => obtain ⟨v', xs', e, _⟩ := this; rw [e]; rfl
  | map kvs => rcases this.1 with ⟨c, e⟩ | ⟨c, e⟩ <;> rw [e] <;> rfl
  | cmap kvs => rcases this.1 with ⟨c, e⟩ | ⟨c, e⟩ <;> rw [e] <;> rfl
  | lp j key caps => obtain ⟨⟨j', c', e⟩, _⟩ := this; rw [e]; rfl
theorem obj_take {tm tm' : List (Nat × V)} {h : List (Option Obj)} {n i : Nat} : (⟨tm, h.take n⟩ : St).obj i = if i < n then (⟨tm', h⟩ : St).obj i else none := by
 unfold St.obj
 simp only
 rw [List.getElem?_take]
 split <;> rfl
theorem cut_ok {nt : Nat} {g0 : Gh} {ob0 : Nat → Option Obj} {w0 : World} {s : St} {a : Act} {n : Nat} {tm : List (Nat × V)} (h : Go1 tab nt g0 ob0 w0 ds g (look tm) s.obj a w) (h0 : ∀ i, (ob0 i).isSome = true → i < n) (h1 : underTmps n tm = true) (h2 : (s.heap.take n).all (Obj.under n) = true) :
  Go1 tab nt g0 ob0 w0 ds g (look tm) (⟨tm, s.heap.take n⟩ : St).obj a w := by
 have hob : ∀ i, (⟨tm, s.heap.take n⟩ : St).obj i = if i < n then s.obj i else none := fun i => obj_take
 have ho : ∀ i, i < n → (⟨tm, s.heap.take n⟩ : St).obj i = s.obj i := fun i hi => by rw [hob, if_pos hi]
 have hsome : ∀ i o, (⟨tm, s.heap.take n⟩ : St).obj i = some o → i < n ∧ s.obj i = some o := fun i o h => by
  rw [hob] at h
  split at h
  ·rename_i hi; exact ⟨hi, h⟩
  ·cases h
 have hown : ∀ i b o, owns g (⟨tm, s.heap.take n⟩ : St).obj i b o → owns g s.obj i b o := fun i b o h => by
  rcases Qn i n with hi | hi
  ·unfold owns at h ⊢; rw [ho i hi] at h; exact h
  ·unfold owns at h; rw [hob, if_neg (by omega)] at h; exact h.elim
 have hund : ∀ i o, (⟨tm, s.heap.take n⟩ : St).obj i = some o → Obj.under n (some o) = true := fun i o h => by
  unfold St.obj at h
  simp only at h
  cases hg : (s.heap.take n)[i]? with
  | none => rw [hg] at h; cases h
  | some x =>
   rw [hg] at h
   simp only [Option.join_some] at h
   subst h
   exact List.all_eq_true.1 h2 _ (List.mem_of_getElem? hg)
 have hlook : ∀ (l : List (Nat × V)) t, underTmps n l = true → V.under n (look l t) = true := by
  intro l
  induction l with
  | nil => intro t _; rfl
  | cons p l ih =>
   obtain ⟨i, v⟩ := p
   intro t hu
   simp only [underTmps, Qi] at hu
   rw [look_cons]
   split
   ·exact hu.1
   ·exact ih t hu.2
 refine ⟨⟨fun t => VRel.under ho _ _ (hlook tm t h1) (h.rel.tmp t), h.rel.size, ?_⟩, evo_sub h.evo hown (fun i => ?_), h.df⟩
 rotate_left
 ·have := h.evo.kevo i
  cases hb : ob0 i with
  | none => trivial
  | some o =>
   rw [hb] at this
   rw [ho i (h0 i (by rw [hb]; rfl))]
   exact this
 refine hrel_sub h.rel.heap hown (fun i hm b o hb kvs e => ?_) (fun i o hi => ?_)
 ·rcases Qn i n with hi | hi
  ·exact hm kvs (by rw [ho i hi]; exact e)
  ·unfold owns at hb; rw [hob, if_neg (by omega)] at hb; exact hb
 ·obtain ⟨hin, hio⟩ := hsome i o hi
  have hr := h.rel.heap.ob i o hio
  have hu := hund i o hi
  cases o with
  | box cs =>
   obtain ⟨k1, us, k2, k3⟩ := hr
   exact ⟨k1, us, CList.under ho cs us hu k2, k3⟩
  | cst ds => exact hr
  | tok v sz => exact hr
  | arr v sz xs =>
   obtain ⟨k1, k2, k3, k4⟩ := hr
   refine ⟨k1, k2, k3, fun j r q x h5 h6 => ?_⟩
   obtain ⟨u, m1, m2, m3⟩ := k4 j r q x h5 h6
   refine ⟨u, m1, VRel.under ho x u ?_ m2, m3⟩
   have all1 : ∀ (xs : List V) (x : V), V.underAll n xs = true → x ∈ xs → V.under n x = true := by
    intro xs x
    induction xs with
    | nil => intro _ h; cases h
    | cons y xs ih =>
     intro hu hx
     simp only [V.underAll, Qi] at hu
     rcases List.mem_cons.1 hx with rfl | hx
     ·exact hu.1
     ·exact ih hu.2 hx
   have all2 : ∀ (xs : List (List V)) (r : List V), underRows n xs = true → r ∈ xs → V.underAll n r = true := by
    intro xs r
    induction xs with
    | nil => intro _ h; cases h
    | cons y xs ih =>
     intro hu hx
     simp only [underRows, Qi] at hu
     rcases List.mem_cons.1 hx with rfl | hx
     ·exact hu.1
     ·exact ih hu.2 hx
   exact all1 r x (all2 xs r hu (List.mem_of_getElem? h5)) (List.mem_of_getElem? h6)
  | map kvs => obtain ⟨es, cl, k1, k2⟩ := hr; exact ⟨es, cl, k1, MRel.under ho hu k2⟩
  | cmap kvs => obtain ⟨k0, es, cl, k1, k2⟩ := hr; exact ⟨k0, es, cl, k1, MRel.under ho hu k2⟩
  | lp j key caps =>
   obtain ⟨r, R, h1, h2, h3, h4, h5, h6, h7, h8, h9⟩ := hr
   exact ⟨r, R, h1, h2, h3, h4, h5, h6, h7, h8, VList.under ho caps _ hu h9⟩
mutual
theorem VRel.fine (h1 : ∀ i, isBox (obj i) → isBox (obj' i)) (h2 : ∀ i, isMapO (obj i) → isMapO (obj' i)) (h3 : ∀ i j key caps, obj i = some (.lp j key caps) → ∃ j' caps', obj' i = some (.lp j' key caps')) : ∀ (x : V) (v : Value), V.fine x = true → VRel tab g obj w x v → VRel tab g obj' w x v
 | .d x, v, _, h => by simp only [VRel] at *; exact h
 | .nil _, v, _, h => by simp only [VRel] at *; exact h
 | .own id ver sz xs, v, hu, h => by simp [V.fine] at hu
 | .arr id ver off len, v, hu, h => by simp [V.fine] at hu
 | .ptr id off, v, hu, h => by
  simp only [VRel] at *
  exact ⟨h1 id h.1, h.2⟩
 | .pm id ver idx off, v, hu, h => by simp [V.fine] at hu
 | .map id, v, hu, h => by
  simp only [VRel] at *
  exact ⟨h2 id h.1, h.2⟩
 | .fn key a c, v, hu, h => by
  simp only [V.fine, Qi] at hu
  simp only [VRel] at *
  rcases h with ⟨fid, fs, cs, k1, k2, k3, k4, k5⟩ | ⟨id, k1, k2, k3, j, caps, k4⟩
  ·exact .inl ⟨fid, fs, cs, k1, k2, VList.fine h1 h2 h3 a fs hu.1 k3, VList.fine h1 h2 h3 c cs hu.2 k4, k5⟩
  ·exact .inr ⟨id, k1, k2, k3, h3 id j key caps k4⟩
 | .agg cs, v, hu, h => by simp [V.fine] at hu
 | .tup ws, v, hu, h => by simp [V.fine] at hu
 | .bad, v, _, _ => by simp only [VRel]
theorem VList.fine (h1 : ∀ i, isBox (obj i) → isBox (obj' i)) (h2 : ∀ i, isMapO (obj i) → isMapO (obj' i)) (h3 : ∀ i j key caps, obj i = some (.lp j key caps) → ∃ j' caps', obj' i = some (.lp j' key caps')) : ∀ (xs : List V) (vs : List Value), V.fineAll xs = true → VList tab g obj w xs vs → VList tab g obj' w xs vs
 | [], [], _, _ => by simp only [VList]
 | x :: xs, v :: vs, hu, h => by
  simp only [V.fineAll, Qi] at hu
  simp only [VList] at *
  exact ⟨VRel.fine h1 h2 h3 x v hu.1 h.1, VList.fine h1 h2 h3 xs vs hu.2 h.2⟩
 | [], _ :: _, _, h => by simp only [VList] at h
 | _ :: _, [], _, h => by simp only [VList] at h
end
theorem norm_ok {nt : Nat} {g0 : Gh} {ob0 : Nat → Option Obj} {w0 : World} {a : Act} {tm tm' : List (Nat × V)} {h : List (Option Obj)} (hR : Go1 tab nt g0 ob0 w0 ds g (look tm) (⟨tm, h⟩ : St).obj a w) :
  Go1 tab nt g0 ob0 w0 ds g (look (normTmps h tm)) (⟨tm', h.map (normObj h)⟩ : St).obj a w := by
 generalize hob : (⟨tm, h⟩ : St).obj = obj at hR
 have hobj : ∀ i, (h[i]?).join = obj i := fun i => by rw [← hob]; rfl
 have hob' : ∀ i, (⟨tm', h.map (normObj h)⟩ : St).obj i = normObj h (obj i) := fun i => by
  rw [← hobj]
  unfold St.obj
  simp only [List.getElem?_map]
  cases h[i]? <;> rfl
 generalize (⟨tm', h.map (normObj h)⟩ : St).obj = obj' at hob'
 have b1 : ∀ i, isBox (obj i) → isBox (obj' i) := fun i hi => by
  rcases hi with ⟨cs, hi⟩ | ⟨ds, hi⟩
  ·exact .inl ⟨_, by rw [hob', hi]; rfl⟩
  ·exact .inr ⟨_, by rw [hob', hi]; rfl⟩
 have b2 : ∀ i, isMapO (obj i) → isMapO (obj' i) := fun i hi => by
  rcases hi with ⟨cs, hi⟩ | ⟨ds, hi⟩
  ·exact .inl ⟨_, by rw [hob', hi]; rfl⟩
  ·exact .inr ⟨_, by rw [hob', hi]; rfl⟩
 have b3 : ∀ i j key caps, obj i = some (.lp j key caps) → ∃ j' caps', obj' i = some (.lp j' key caps') := fun i j key caps hi => ⟨_, _, by rw [hob', hi]; rfl⟩
 have nc : ∀ x v, VRel tab g obj w x v → VRel tab g obj' w (normC h x) v := by
  intro x v hx
  have rest : (∀ a b c d, x ≠ .own a b c d) → (∀ a b c d, x ≠ .arr a b c d) → VRel tab g obj' w (if x.fine then x else .bad) v := fun _ _ => by
   split
   ·rename_i hf; exact VRel.fine b1 b2 b3 x v hf hx
   ·simp only [VRel]
  cases x with
  | own id ver sz xs =>
   simp only [VRel] at hx
   obtain ⟨k1, ver', sz', k2, k3, k4⟩ := hx
   simp only [normC, hobj, k2]
   split
   ·rename_i e
    simp only [VRel]
    exact ⟨k1, 0, sz', by rw [hob', k2]; rfl, Nat.le_refl _, fun _ => k4 e⟩
   ·simp only [VRel]; exact k1
  | arr id ver off len =>
   simp only [VRel] at hx
   obtain ⟨k1, ver', sz, xs, k2, k3, k4⟩ := hx
   simp only [normC, hobj, k2]
   split
   ·rename_i e
    simp only [VRel]
    exact ⟨k1, ver', sz, _, by rw [hob', k2]; rfl, k3, fun e => by simpa using k4 e⟩
   ·simp only [VRel]
  | _ => exact rest (by simp) (by simp)
 have ncs : ∀ cs us, CList tab g obj w cs us → CList tab g obj' w (cs.map (normC h)) us := by
  intro cs
  induction cs with
  | nil => intro us hc; cases us with | nil => simp [CList] | cons => simp only [CList] at hc
  | cons c cs ih =>
   intro us hc
   cases us with
   | nil => simp only [CList] at hc
   | cons u us => simp only [Qb, CList] at *; exact ⟨nc _ _ hc.1, hc.2.1, ih us hc.2.2⟩
 have nv : ∀ x v, VRel tab g obj w x v → VRel tab g obj' w (normV h x) v := by
  intro x v hx
  cases x with
  | agg cs =>
   simp only [VRel] at hx
   obtain ⟨vs, k1, k2⟩ := hx
   simp only [normV, VRel]
   exact ⟨vs, k1, ncs cs vs k2⟩
  | tup ws =>
   cases ws with
   | nil => simp only [normV, VRel] at *; exact hx.imp fun vs k => ⟨k.1, by have := k.2; cases vs with | nil => simp only [VList] | cons => simp only [VList] at this⟩
   | cons => exact nc _ _ hx
  | _ => exact nc _ _ hx
 have nm : ∀ {kvs : List (List D × V)} {es : List MapEntry} {cl : Nat}, MRel tab g obj w kvs es cl → MRel tab g obj' w (kvs.map fun p => (p.1, normV h p.2)) es cl := by
  rintro kvs es cl ⟨kv, hp, hn, hb, hd, k2⟩
  refine ⟨kv.map fun p => (p.1, normV h p.2), hp.map _, by rw [List.map_map]; exact hn, hb, hd, ?_⟩
  have : ∀ (kvs : List (List D × V)) (es : List MapEntry), EList tab g obj w kvs es → EList tab g obj' w (kvs.map fun p => (p.1, normV h p.2)) es := by
   intro kvs
   induction kvs with
   | nil => intro es he; cases es with | nil => simp [EList] | cons => simp only [EList] at he
   | cons p kvs ih =>
    intro es he
    cases es with
    | nil => simp only [EList] at he
    | cons e es => simp only [Qb, EList] at *; exact ⟨he.1, nv _ _ he.2.1, ih es he.2.2⟩
  exact this kv _ k2
 have hown : ∀ i b o, owns g obj' i b o → owns g obj i b o := fun i b o ho => by
  unfold owns at ho ⊢
  rw [hob'] at ho
  cases hi : obj i with
  | none => rw [hi] at ho; exact ho
  | some ob => rw [hi] at ho; cases ob <;> exact ho
 have kev : KEvo g obj g obj' := fun i => by
  rw [hob']
  cases hi : obj i with
  | none => trivial
  | some o =>
   cases o with
   | box cs => exact ⟨.inl ⟨_, rfl⟩, rfl⟩
   | cst ds => exact ⟨.inr ⟨_, rfl⟩, rfl⟩
   | tok v sz => exact ⟨_, _, rfl⟩
   | arr v sz xs => exact ⟨v, _, rfl, Nat.le_refl _, fun _ => ⟨by simp, rfl⟩⟩
   | map kvs => exact ⟨.inl ⟨_, rfl⟩, rfl⟩
   | cmap kvs => exact ⟨.inr ⟨_, rfl⟩, rfl⟩
   | lp j key caps => exact ⟨⟨_, _, rfl⟩, rfl⟩
 have hlook : ∀ (l : List (Nat × V)) t, look (normTmps h l) t = normV h (look l t) := by
  intro l
  induction l with
  | nil => intro t; rfl
  | cons p l ih =>
   obtain ⟨i, v⟩ := p
   intro t
   simp only [normTmps, look_cons]
   split
   ·rfl
   ·exact ih t
 refine ⟨⟨fun t => by rw [hlook]; exact nv _ _ (hR.rel.tmp t), hR.rel.size, ?_⟩, evo_sub hR.evo hown (hR.evo.kevo.trans kev), hR.df⟩
 refine hrel_sub hR.rel.heap hown (fun i hm b o hb kvs e => ?_) (fun i o hi => ?_)
 ·exact hm _ (by rw [hob', e]; rfl)
 ·rw [hob'] at hi
  cases hio : obj i with
  | none => rw [hio] at hi; simp [normObj] at hi
  | some ob =>
   have hr := hR.rel.heap.ob i ob hio
   rw [hio] at hi
   cases ob with
   | box cs =>
    simp only [normObj, Qa] at hi
    subst hi
    obtain ⟨k1, us, k2, k3⟩ := hr
    exact ⟨by simpa using k1, us, ncs cs us k2, k3⟩
   | cst ds => simp only [normObj, Qa] at hi; subst hi; exact hr
   | tok v sz => simp only [normObj, Qa] at hi; subst hi; exact hr
   | arr v sz xs =>
    simp only [normObj, Qa] at hi
    subst hi
    obtain ⟨k1, k2, k3, k4⟩ := hr
    refine ⟨fun r hr => ?_, by simpa using k2, k3, fun j r q x h5 h6 => ?_⟩
    ·obtain ⟨r', m1, rfl⟩ := List.mem_map.1 hr
     simpa using k1 r' m1
    ·rw [List.getElem?_map] at h5
     obtain ⟨r', m1, rfl⟩ := Option.map_eq_some_iff.1 h5
     rw [List.getElem?_map] at h6
     obtain ⟨x', m2, rfl⟩ := Option.map_eq_some_iff.1 h6
     obtain ⟨u, m3, m4, m5⟩ := k4 j r' q x' m1 m2
     exact ⟨u, m3, nc _ _ m4, m5⟩
   | map kvs => simp only [normObj, Qa] at hi; subst hi; obtain ⟨es, cl, k1, k2⟩ := hr; exact ⟨es, cl, k1, nm k2⟩
   | cmap kvs => simp only [normObj, Qa] at hi; subst hi; obtain ⟨k0, es, cl, k1, k2⟩ := hr; exact ⟨k0, es, cl, k1, nm k2⟩
   | lp j key caps =>
    simp only [normObj, Qa] at hi
    subst hi
    obtain ⟨r, R, h1, h2, h3, h4, h5, h6, h7, h8, h9⟩ := hr
    refine ⟨r, R, h1, h2, h3, h4, h5, h6, h7, h8, ?_⟩
    have : ∀ (xs : List V) (us : List Value), VList tab g obj w xs us → VList tab g obj' w (xs.map (normV h)) us := by
     intro xs
     induction xs with
     | nil => intro us he; cases us with | nil => simp [VList] | cons => simp only [VList] at he
     | cons x xs ih =>
      intro us he
      cases us with
      | nil => simp only [VList] at he
      | cons u us => simp only [Qb, VList] at *; exact ⟨nv _ _ he.1, ih us he.2⟩
    exact this caps _ h9
theorem back_ok {nt : Nat} {g0 : Gh} {ob0 : Nat → Option Obj} {w0 : World} {ann : Ann} {n : Nat} {s s' : St} {a : Act} (h : Go1 tab nt g0 ob0 w0 ds g s.get s.obj a w) (h0 : ∀ i, (ob0 i).isSome = true → i < n) (hb : back ann n s = some s') : Go1 tab nt g0 ob0 w0 ds g s'.get s'.obj a w := by
 unfold back at hb
 simp only at hb
 have h := dats_ok ann h
 generalize dats ann s = s at h hb
 have hk : Go1 tab nt g0 ob0 w0 ds g (look (keepTmps s ann.keep)) s.obj a w := h.weaken fun t => look_keep s ann.keep t
 split at hb
 ·split at hb
  ·rename_i hc
   simp only [Qi] at hc
   simp only [Qa] at hb
   subst hb
   exact norm_ok (cut_ok hk h0 hc.1 hc.2)
  ·cases hb
 ·simp only [Qa] at hb
  subst hb
  exact hk
end
open Go
open Go.RowKit (Below)
mutual
theorem D.same_eq : ∀ (x y : D), D.same x y = true → x = y
 | .b x, y, h => by cases y <;> simp_all [D.same]
 | .i k n, y, h => by cases y <;> simp_all [D.same]
 | .s x, y, h => by cases y <;> simp_all [D.same]
 | .l sz xs, y, h => by
  cases y <;> simp only [D.same, Qi, Qh] at h <;> try (cases h; done)
  rw [h.1, D.sameR_eq xs _ h.2]
 | .q xs o, y, h => by
  cases y <;> simp only [D.same, Qi, Qh] at h <;> try (cases h; done)
  rw [h.2, D.sameL_eq xs _ h.1]
 | .f k a c, y, h => by
  cases y <;> simp only [D.same, Qi, Qh] at h <;> try (cases h; done)
  rw [h.1.1, D.sameL_eq a _ h.1.2, D.sameL_eq c _ h.2]
 | .np, y, h => by cases y <;> simp_all [D.same]
 | .nf, y, h => by cases y <;> simp_all [D.same]
 | .nm, y, h => by cases y <;> simp_all [D.same]
theorem D.sameL_eq : ∀ (xs ys : List D), D.sameL xs ys = true → xs = ys
 | [], ys, h => by cases ys <;> simp_all [D.sameL]
 | x :: xs, ys, h => by
  cases ys with
  | nil => simp [D.sameL] at h
  | cons y ys =>
   simp only [D.sameL, Qi] at h
   rw [D.same_eq x y h.1, D.sameL_eq xs ys h.2]
theorem D.sameR_eq : ∀ (xs ys : List (List D)), D.sameR xs ys = true → xs = ys
 | [], ys, h => by cases ys <;> simp_all [D.sameR]
 | x :: xs, ys, h => by
  cases ys with
  | nil => simp [D.sameR] at h
  | cons y ys =>
   simp only [D.sameR, Qi] at h
   rw [D.sameL_eq x y h.1, D.sameR_eq xs ys h.2]
end
mutual
theorem V.same_eq : ∀ (x y : V), V.same x y = true → x = y
 | .d x, y, h => by
  cases y <;> simp only [V.same] at h <;> try (cases h; done)
  rw [D.same_eq _ _ h]
 | .nil a, y, h => by cases y <;> simp_all [V.same]
 | .own a b c xs, y, h => by
  cases y <;> simp only [V.same, Qi, Qh] at h <;> try (cases h; done)
  obtain ⟨⟨rfl, rfl, rfl⟩, h⟩ := h
  rw [D.sameR_eq _ _ h]
 | .arr a b c e, y, h => by cases y <;> simp_all [V.same]
 | .ptr a b, y, h => by cases y <;> simp_all [V.same]
 | .pm a b c e, y, h => by cases y <;> simp_all [V.same]
 | .map a, y, h => by cases y <;> simp_all [V.same]
 | .fn k a c, y, h => by
  cases y <;> simp only [V.same, Qi, Qh] at h <;> try (cases h; done)
  rw [h.1.1, V.sameL_eq a _ h.1.2, V.sameL_eq c _ h.2]
 | .agg xs, y, h => by
  cases y <;> simp only [V.same] at h <;> try (cases h; done)
  rw [V.sameL_eq _ _ h]
 | .tup xs, y, h => by
  cases y <;> simp only [V.same] at h <;> try (cases h; done)
  rw [V.sameL_eq _ _ h]
 | .bad, y, h => by cases y <;> simp_all [V.same]
theorem V.sameL_eq : ∀ (xs ys : List V), V.sameL xs ys = true → xs = ys
 | [], ys, h => by cases ys <;> simp_all [V.sameL]
 | x :: xs, ys, h => by
  cases ys with
  | nil => simp [V.sameL] at h
  | cons y ys =>
   simp only [V.sameL, Qi] at h
   rw [V.same_eq x y h.1, V.sameL_eq xs ys h.2]
end
theorem sameRows_eq : ∀ (xs ys : List (List V)), sameRows xs ys = true → xs = ys
 | [], ys, h => by cases ys <;> simp_all [sameRows]
 | x :: xs, ys, h => by
  cases ys with
  | nil => simp [sameRows] at h
  | cons y ys =>
   simp only [sameRows, Qi] at h
   rw [V.sameL_eq x y h.1, sameRows_eq xs ys h.2]
theorem sameKvs_eq : ∀ (xs ys : List (List D × V)), sameKvs xs ys = true → xs = ys
 | [], ys, h => by cases ys <;> simp_all [sameKvs]
 | (k, x) :: xs, ys, h => by
  cases ys with
  | nil => simp [sameKvs] at h
  | cons y ys =>
   obtain ⟨k', y⟩ := y
   simp only [sameKvs, Qi] at h
   rw [D.sameL_eq k k' h.1.1, V.same_eq x y h.1.2, sameKvs_eq xs ys h.2]
theorem Obj.same_eq (x y : Obj) (h : Obj.same x y = true) : x = y := by
 cases x <;> cases y <;> simp only [Obj.same, Qi, Qh] at h <;> try (cases h; done)
 ·rw [V.sameL_eq _ _ h]
 ·rw [D.sameL_eq _ _ h]
 ·obtain ⟨rfl, rfl⟩ := h; rfl
 ·obtain ⟨⟨rfl, rfl⟩, h⟩ := h; rw [sameRows_eq _ _ h]
 ·rw [sameKvs_eq _ _ h]
 ·rw [sameKvs_eq _ _ h]
 ·obtain ⟨⟨rfl, rfl⟩, h⟩ := h; rw [V.sameL_eq _ _ h]
theorem sameHeap_eq : ∀ (xs ys : List (Option Obj)), sameHeap xs ys = true → xs = ys
 | [], ys, h => by cases ys <;> simp_all [sameHeap]
 | none :: xs, ys, h => by
  match ys, h with
  | none :: ys, h => rw [sameHeap_eq xs ys (by simpa [sameHeap] using h)]
  | some _ :: _, h => simp [sameHeap] at h
  | [], h => simp [sameHeap] at h
 | some x :: xs, ys, h => by
  match ys, h with
  | some y :: ys, h =>
   simp only [sameHeap, Qi] at h
   rw [Obj.same_eq x y h.1, sameHeap_eq xs ys h.2]
  | none :: _, h => simp [sameHeap] at h
  | [], h => simp [sameHeap] at h
theorem sameTmps_eq : ∀ (xs ys : List (Nat × V)), sameTmps xs ys = true → xs = ys
 | [], ys, h => by cases ys <;> simp_all [sameTmps]
 | (k, x) :: xs, ys, h => by
  cases ys with
  | nil => simp [sameTmps] at h
  | cons y ys =>
   obtain ⟨k', y⟩ := y
   simp only [sameTmps, Qi, Qh] at h
   rw [h.1.1, V.same_eq x y h.1.2, sameTmps_eq xs ys h.2]
theorem outSame_eq (x y : Ex × St) (h : outSame x y = true) : x = y := by
 obtain ⟨e, ⟨t, p⟩⟩ := x
 obtain ⟨e', ⟨t', p'⟩⟩ := y
 simp only [outSame, St.same, Qi] at h
 obtain ⟨h1, h2, h3⟩ := h
 have : e = e' := by cases e <;> cases e' <;> simp_all [exSame]
 rw [this, sameTmps_eq _ _ h2, sameHeap_eq _ _ h3]
def Idle (f : RoundF) (s : St) (p : List D × V) : Prop := ∃ o, f s p = some o ∧ outSame o (.normal, s) = true
theorem Idle.eq {f : RoundF} {s : St} {p : List D × V} (h : Idle f s p) : f s p = some (.normal, s) := by
 obtain ⟨o, h1, h2⟩ := h
 rw [h1, outSame_eq _ _ h2]
theorem actsM_get {f : RoundF} {s : St} : ∀ {kvs : List (List D × V)} {l : List (Ex × St)}, actsM f s kvs = some l → ∀ p ∈ kvs, Idle f s p ∨ ∃ o ∈ l, f s p = some o
 | [], l, h, p, hp => by cases hp
 | q :: r, l, h, p, hp => by
  simp only [actsM] at h
  split at h
  ·rename_i o os h1 h2
   simp only [Qa] at h
   rcases List.mem_cons.1 hp with rfl | hp
   ·split at h
    ·rename_i hs; exact .inl ⟨o, h1, hs⟩
    ·subst h; exact .inr ⟨o, List.mem_cons_self, h1⟩
   ·rcases actsM_get h2 p hp with h3 | ⟨o', h3, h4⟩
    ·exact .inl h3
    ·refine .inr ⟨o', ?_, h4⟩
     split at h
     ·subst h; exact h3
     ·subst h; exact List.mem_cons_of_mem _ h3
  ·cases h
theorem actsM_nil {f : RoundF} {s : St} {kvs : List (List D × V)} (h : actsM f s kvs = some []) : ∀ p ∈ kvs, Idle f s p := fun p hp => by
 rcases actsM_get h p hp with h1 | ⟨o, h1, _⟩
 ·exact h1
 ·cases h1
theorem actsM_one {f : RoundF} {s : St} {o : Ex × St} : ∀ {kvs : List (List D × V)}, actsM f s kvs = some [o] → ∃ x ∈ kvs, f s x = some o ∧ ∀ p ∈ kvs, Idle f s p ∨ p = x
 | [], h => by cases h
 | q :: r, h => by
  simp only [actsM] at h
  split at h
  ·rename_i o' os h1 h2
   simp only [Qa] at h
   split at h
   ·rename_i hs
    subst h
    obtain ⟨x, hx, h0, h3⟩ := actsM_one h2
    refine ⟨x, List.mem_cons_of_mem _ hx, h0, fun p hp => ?_⟩
    rcases List.mem_cons.1 hp with rfl | hp
    ·exact .inl ⟨o', h1, hs⟩
    ·exact h3 p hp
   ·simp only [List.cons.injEq] at h
    obtain ⟨rfl, rfl⟩ := h
    refine ⟨q, List.mem_cons_self, h1, fun p hp => ?_⟩
    rcases List.mem_cons.1 hp with rfl | hp
    ·exact .inr rfl
    ·exact .inl (actsM_nil h2 p hp)
  ·cases h
theorem restM_get {f : RoundF} {s s' : St} : ∀ {kvs : List (List D × V)}, restM f s s' kvs = true → ∀ p ∈ kvs, Idle f s p → Idle f s' p
 | [], h, p, hp, _ => by cases hp
 | q :: r, h, p, hp, hi => by
  simp only [restM, Qi] at h
  obtain ⟨h1, h2⟩ := h
  rcases List.mem_cons.1 hp with rfl | hp
  ·obtain ⟨o, h3, h4⟩ := hi
   simp only [h3, h4, if_true] at h1
   split at h1
   ·rename_i o' ho'; exact ⟨o', ho', h1⟩
   ·cases h1
  ·exact restM_get h2 p hp hi
inductive Rounds (f : RoundF) (s : St) (kvs : List (List D × V)) : Ex × St → Prop where
 | none (h : ∀ p ∈ kvs, f s p = some (.normal, s)) : Rounds f s kvs (.normal, s)
 | one (s' : St) (x : List D × V) (hx : x ∈ kvs) (h1 : f s x = some (.normal, s')) (h2 : ∀ p ∈ kvs, p ≠ x → f s p = some (.normal, s) ∧ f s' p = some (.normal, s')) : Rounds f s kvs (.normal, s')
 | leave (o : Ex × St) (ho : o.1 ≠ .normal) (x : List D × V) (hx : x ∈ kvs) (h0 : f s x = some o) (h1 : ∀ p ∈ kvs, f s p = some (.normal, s) ∨ f s p = some o) : Rounds f s kvs o
theorem acts_first {f : RoundF} {s : St} : ∀ {kvs : List (List D × V)} {o : Ex × St} {l : List (Ex × St)}, actsM f s kvs = some (o :: l) → ∃ x ∈ kvs, f s x = some o
 | [], o, l, h => by cases h
 | q :: r, o, l, h => by
  simp only [actsM] at h
  split at h
  ·rename_i o' os h1 h2
   simp only [Qa] at h
   split at h
   ·subst h
    obtain ⟨x, k1, k2⟩ := acts_first h2
    exact ⟨x, List.mem_cons_of_mem _ k1, k2⟩
   ·simp only [List.cons.injEq] at h
    obtain ⟨rfl, rfl⟩ := h
    exact ⟨q, List.mem_cons_self, h1⟩
  ·cases h
theorem rounds_of {f : RoundF} {s : St} {kvs : List (List D × V)} {o : Ex × St} (h : roundsM f s kvs = some o) : Rounds f s kvs o := by
 unfold roundsM at h
 split at h
 ·cases h
 ·rename_i l h1
  have lv : ∀ (o1 : Ex × St) (r : List (Ex × St)), o1.1 ≠ .normal → actsM f s kvs = some (o1 :: r) → (if r.all (outSame · o1) then some o1 else none) = some o → Rounds f s kvs o := fun o1 r hne h2 h => by
   split at h
   ·rename_i hall
    simp only [Qa] at h; subst h
    obtain ⟨x, k1, k2⟩ := acts_first h2
    refine .leave _ hne x k1 k2 fun p hp => ?_
    rcases actsM_get h2 p hp with h3 | ⟨o, h3, h4⟩
    ·exact .inl h3.eq
    ·rcases List.mem_cons.1 h3 with rfl | h3
     ·exact .inr h4
     ·rw [h4, outSame_eq _ _ (List.all_eq_true.1 hall o h3)]; exact .inr rfl
   ·cases h
  match l, h1, h with
  | [], h1, h =>
   simp only [decideM, Qa] at h; subst h
   exact .none fun p hp => (actsM_nil h1 p hp).eq
  | [(.normal, s')], h1, h =>
   simp only [decideM] at h
   split at h
   ·rename_i hr
    simp only [Qa] at h; subst h
    obtain ⟨x, hx, h0, h3⟩ := actsM_one h1
    exact .one s' x hx h0 fun p hp hne => ⟨((h3 p hp).resolve_right hne).eq, (restM_get hr p hp ((h3 p hp).resolve_right hne)).eq⟩
   ·cases h
  | (.normal, _) :: _ :: _, h1, h => simp [decideM] at h
  | (.ret, st) :: r, h1, h => exact lv _ r (by simp) h1 h
  | (.exit i, st) :: r, h1, h => exact lv _ r (by simp) h1 h
open Go
open Go.RowKit (Below)
open Go.ChangeMaps (setBlock)
section
variable {P : Program} {tab : Tab} {call : CallF} {ds : List Deferred}
theorem freeze_map {g : Gh} {obj : Nat → Option Obj} {w : World} (hH : HRel tab g obj w) {id : Nat} {kvs : List (List D × V)} (ho : obj id = some (.map kvs)) :
  ∃ g', Post tab g obj w g' (updO obj id (some (.cmap kvs))) w := by
 have hown : ∀ q, owns g obj id (g.at_ id).blk q := fun q => by unfold owns; rw [ho]
 have kind : OEvo g obj ⟨updP g.at_ id (g.at_ id), fun b o => g.im b o ∨ (b = (g.at_ id).blk ∧ o = 0)⟩ (updO obj id (some (.cmap kvs))) := by
  intro j
  by_cases e : j = id
  ·subst e; rw [ho]; exact ⟨.inr ⟨kvs, updO_same _ _ _⟩, updP_same _ _ _⟩
  ·have := OEvo.refl g obj j
   rw [updO_ne _ _ e, show (⟨updP g.at_ id (g.at_ id), fun b o => g.im b o ∨ (b = (g.at_ id).blk ∧ o = 0)⟩ : Gh).at_ j = g.at_ j from updP_ne _ _ e]
   exact this
 obtain ⟨h1, h2, h3⟩ := step1 (w' := w) hH id (.cmap kvs) (g.at_ id) (fun b o => g.im b o ∨ (b = (g.at_ id).blk ∧ o = 0)) rfl rfl rfl (Nat.le_refl _) (fun _ _ => .refl _)
  (fun b q h => .inl h)
  (fun b q h => by
   rcases h with h | ⟨rfl, rfl⟩
   ·exact .inl h
   ·exact .inr (.inl (hown 0)))
  (fun b q h => by unfold owns at h; simp only [updO_same] at h)
  (fun b q h _ => by unfold owns at h; simp only [updO_same] at h)
  kind
  (fun hv => by
   obtain ⟨es, cl, k1, k2⟩ := hH.ob id _ ho
   exact ⟨.inr ⟨rfl, rfl⟩, es, cl, k1, MRel.mono kind (fun b q h => .inl h) (fun _ _ _ => rfl) kvs es.toList cl k2⟩)
 exact ⟨_, h1, h2, h3⟩
theorem obj_freeze {tm tm' : List (Nat × V)} {h : List (Option Obj)} : (⟨tm, h.map freezeO⟩ : St).obj = fun i => freezeO ((⟨tm', h⟩ : St).obj i) := by
 funext i
 unfold St.obj
 simp only [List.getElem?_map]
 cases h[i]? <;> rfl
theorem post_freeze {w : World} {tm : List (Nat × V)} : ∀ (h pre : List (Option Obj)) (g : Gh), HRel tab g (⟨tm, pre ++ h⟩ : St).obj w → ∃ g', Post tab g (⟨tm, pre ++ h⟩ : St).obj w g' (⟨tm, pre ++ h.map freezeO⟩ : St).obj w
 | [], pre, g, hH => ⟨g, by simpa using Post.refl hH⟩
 | o :: h, pre, g, hH => by
  obtain ⟨g1, h1⟩ : ∃ g1, Post tab g (⟨tm, pre ++ o :: h⟩ : St).obj w g1 (⟨tm, (pre ++ [freezeO o]) ++ h⟩ : St).obj w := by
   have e : (pre ++ [freezeO o]) ++ h = pre ++ freezeO o :: h := by simp
   rw [e]
   cases o with
   | none => exact ⟨g, .refl hH⟩
   | some ob =>
    cases ob with
    | map kvs =>
     have hob : (⟨tm, pre ++ some (.map kvs) :: h⟩ : St).obj pre.length = some (.map kvs) := by unfold St.obj; simp
     obtain ⟨g1, k⟩ := freeze_map (tab := tab) hH hob
     refine ⟨g1, ?_⟩
     have e2 : (⟨tm, pre ++ freezeO (some (.map kvs)) :: h⟩ : St).obj = updO (⟨tm, pre ++ some (.map kvs) :: h⟩ : St).obj pre.length (some (.cmap kvs)) := by
      rw [← obj_set (tm := tm) (tm' := tm) (show pre.length < (pre ++ some (Obj.map kvs) :: h).length by simp)]
      simp [freezeO]
     rw [e2]
     exact k
    | _ => exact ⟨g, .refl hH⟩
  obtain ⟨g2, h2⟩ := post_freeze h (pre ++ [freezeO o]) g1 h1.heap
  refine ⟨g2, ?_⟩
  have := h1.trans h2
  simpa using this
theorem iter_alloc {g : Gh} {obj : Nat → Option Obj} {w : World} (hH : HRel tab g obj w) {id : Nat} (hf : obj id = none) (x : Go.Obj) :
  ∃ g', Post tab g obj w g' (updO obj id (some (.cst []))) (w.alloc x) ∧ g'.at_ id = ⟨w.heap.size, 0, 0⟩ ∧ (∀ j, j ≠ id → g'.at_ j = g.at_ j) := by
 have hsz : (w.alloc x).heap.size = w.heap.size + 1 := Array.size_push ..
 obtain ⟨h1, h2, h3⟩ := step1 (w' := w.alloc x) hH id (.cst []) ⟨w.heap.size, 0, 0⟩ g.im rfl rfl rfl (by omega)
  (fun b hb => .inl (by show (w.heap.push _)[b]? = _; rw [Array.getElem?_push, if_neg (by omega)]))
  (fun b q h => h) (fun b q h => .inl h)
  (fun b q h => by unfold owns at h; simp only [updO_same] at h)
  (fun b q h _ => by unfold owns at h; simp only [updO_same] at h)
  (.fresh hf _ _ _)
  (fun hv => by simp only [ORel, DCells])
 exact ⟨_, ⟨h1, h2, h3⟩, updP_same _ _ _, fun j hj => updP_ne _ _ hj⟩
theorem hrel_still {g : Gh} {obj : Nat → Option Obj} {w : World} (hH : HRel tab g obj w) {D : Nat} {x y : Go.Obj} (hd : w.heap[D]? = some x) (hx : ∀ c t fr, x ≠ .cells c t fr) (hy : ∀ c t fr, y ≠ .cells c t fr) (hm : ∀ es cl, x ≠ .map es cl) (hl : ∀ r, x ≠ .loop r) :
  HRel tab g obj (setBlock w D y) ∧ (∀ x v, VRel tab g obj w x v → VRel tab g obj (setBlock w D y) x v) := by
 have hlt : D < w.heap.size := (Array.getElem?_eq_some_iff.1 hd).1
 have hs : (setBlock w D y).heap.size = w.heap.size := by simp [setBlock]
 have same : (setBlock w D y).heap[D]? = some y := by simp [setBlock, hlt]
 have other : ∀ b, b ≠ D → (setBlock w D y).heap[b]? = w.heap[b]? := fun b e => by simp [setBlock, Array.getElem?_setIfInBounds_ne (Ne.symm e)]
 have cell : ∀ b o, (setBlock w D y).cell? (cellAt b o) = w.cell? (cellAt b o) := fun b o => by
  unfold World.cell?
  by_cases e : b = D
  ·subst e
   simp only [cellAt, same, hd]
   cases x <;> cases y <;> first | rfl | exact absurd rfl (hx _ _ _) | exact absurd rfl (hy _ _ _)
  ·simp only [cellAt, other b e]
 have hv : ∀ x v, VRel tab g obj w x v → VRel tab g obj (setBlock w D y) x v := fun x v h => VRel.mono (.refl g obj) (fun _ _ h => h) (fun b o _ => cell b o) x v h
 have cI : ∀ b o, g.im b o → (setBlock w D y).cell? (cellAt b o) = w.cell? (cellAt b o) := fun b o _ => cell b o
 refine ⟨⟨fun id o ho => ?_, hH.imm, hH.one, fun id b o h => by rw [hs]; exact hH.old id b o h, fun id b o h hm' q => ?_, fun b o h => by rw [hs]; exact hH.imOld b o h⟩, hv⟩
 ·have h0 := hH.ob id o ho
  cases o with
  | box cs =>
   obtain ⟨h1, us, h2, h3⟩ := h0
   exact ⟨h1, us, CList.mono (.refl g obj) (fun _ _ h => h) cI cs us h2, fun q u hq => by rw [cell]; exact h3 q u hq⟩
  | cst ds => exact DCells.mono (fun _ _ h => h) cI ds _ _ h0
  | tok v sz => exact fun q hq => by rw [cell]; exact h0 q hq
  | arr v sz xs =>
   obtain ⟨h1, h2, h4, h5⟩ := h0
   exact ⟨h1, h2, fun q hq => by rw [cell]; exact h4 q hq, fun i r q x hi hq => by
    obtain ⟨u, h6, h7, h8⟩ := h5 i r q x hi hq
    exact ⟨u, by rw [cell]; exact h6, hv x u h7, h8⟩⟩
  | map kvs =>
   obtain ⟨es, clock, h1, h2⟩ := h0
   have e : (g.at_ id).blk ≠ D := fun e => by rw [e, hd] at h1; exact hm _ _ (Option.some.inj h1)
   exact ⟨es, clock, by rw [other _ e]; exact h1, MRel.mono (.refl g obj) (fun _ _ h => h) cI kvs es.toList _ h2⟩
  | cmap kvs =>
   obtain ⟨hi, es, clock, h1, h2⟩ := h0
   have e : (g.at_ id).blk ≠ D := fun e => by rw [e, hd] at h1; exact hm _ _ (Option.some.inj h1)
   exact ⟨hi, es, clock, by rw [other _ e]; exact h1, MRel.mono (.refl g obj) (fun _ _ h => h) cI kvs es.toList _ h2⟩
  | lp j key caps =>
   obtain ⟨r, R, h1, h2, h3, h4, h5, h6, h7, h8, h9⟩ := h0
   have e : (g.at_ id).blk ≠ D := fun e => by rw [e, hd] at h1; exact hl _ (Option.some.inj h1)
   exact ⟨r, R, by rw [other _ e]; exact h1, h2, h3, h4, h5, h6, h7, h8, VList.mono (.refl g obj) (fun _ _ h => h) cI caps _ h9⟩
 ·have := hH.frz id b o h hm' q
  unfold World.frozen? at *
  by_cases e : b = D
  ·subst e
   simp only [cellAt, same]
   cases y <;> first | rfl | exact absurd rfl (hy _ _ _)
  ·simp only [cellAt, other b e] at *; exact this
theorem BlockEvo.odd {own : Nat → Prop} {x y : Option Go.Obj} (h : BlockEvo own x y) {o : Go.Obj} (hx : x = some o) (h1 : ∀ c t fr, o ≠ .cells c t fr) (hm : ∀ es cl, o ≠ .map es cl) (hl : ∀ r, o ≠ .loop r) : y = some o := by
 subst hx
 rcases h with h | ⟨c, c', t, fr, k1, k2, k3, k4⟩ | ⟨es, cl, es', cl', k1, k2, k3⟩ | ⟨r, st, pe, k1, k2, k3⟩
 ·exact h
 ·exact absurd (Option.some.inj k1) (h1 _ _ _)
 ·exact absurd (Option.some.inj k1) (hm _ _)
 ·exact absurd (Option.some.inj k1) (hl _)
theorem op_plain {rd : Option Nat} {dp : Nat} {ops : Array Oper} {i : Nat} {o : Oper} (hi : ops[i]? = some o) (hg : o.guard = none) (hnd : ∀ c, o.op ≠ .defer c) {a : Act} {w w' : World} {v : Value} (hrun : (execOp a.eval o).run P w = .ok (.value v) w')
  {K : Act → World → Prop} {Q : Exit → Act → World → Prop} (hK : K (a.put o.dst v) w') : wpOpIn (fen rd) dp P ops Q i K a w := by
 unfold wpOpIn
 simp only [hi]
 have hw : Region.wanted o (yielded ops a.tmps) = true := by unfold Region.wanted; rw [hg]
 rw [if_pos hw]
 exact oper_in hnd (wp_value hrun hK)
theorem put_get {a : Act} {d : Nat} (v : Value) (h : d < a.tmps.size) : (a.put (some d) v).tmps.getD d undef = v := by
 simp [Act.put, Array.getD, h]
theorem put_size {a : Act} {d : Option Nat} {v : Value} : (a.put d v).tmps.size = a.tmps.size := by cases d <;> simp [Act.put]
theorem put_other {a : Act} {d t : Nat} (v : Value) (h : t ≠ d) : (a.put (some d) v).tmps.getD t undef = a.tmps.getD t undef := by
 simp only [Act.put, Array.getD_eq_getD_getElem?, Array.getElem?_setIfInBounds_ne (Ne.symm h)]
theorem seq_opsK {rd : Option Nat} {dp : Nat} (hB : BodyOk P tab) (hCall : CallOk P tab call) {ops : Array Oper} {nt : Nat} {Q : Exit → Act → World → Prop} {rest : List Nat} {g0 : Gh} {obj0 : Nat → Option Obj} {w0 : World} {base n : Nat} {s' : St} {os : List Oper} {cs : List CO} (hc : CompOps P tab nt ops os cs) :
  ∀ (i : Nat), (∀ q o, os[q]? = some o → ops[i + q]? = some o) → ∀ (j : Nat) (s : St) (es : List Eff) (g : Gh) (a : Act) (w : World), j + countMk cs = n → freeFrom s base j n → runOps call base cs j s = some (s', es) → Go1 tab nt g0 obj0 w0 ds g s.get s.obj a w →
   (∀ g' a' w', Go1 tab nt g0 obj0 w0 ds g' s'.get s'.obj a' w' → wpOpsIn (fen rd) dp P ops Q rest a' w') → wpOpsIn (fen rd) dp P ops Q (List.range' i os.length ++ rest) a w := by
 induction hc with
 | nil =>
  intro i hi j s es g a w hn hF hr hR hQ
  simp only [runOps, Qa, Qj] at hr
  obtain ⟨rfl, rfl⟩ := hr
  simp only [List.length_nil, List.range'_zero, List.nil_append]
  exact hQ g a w hR
 | @cons o c os cs frz h1 h2 h3 h4 h5 ih =>
  intro i hi j s es g a w hn hF hr hR hQ
  obtain ⟨e, es', he, hr', rfl⟩ := runOps_step hr
  rw [countMk_cons] at hn
  obtain ⟨f1, f2, f3⟩ := free_step hF (by omega) he
  rw [List.length_cons, List.range'_succ, List.cons_append, wpOpsIn_cons]
  refine op_step hB hCall (hi 0 o rfl) h1 h2 h3 h4 hR ⟨_, hF.2 j (Nat.le_refl _)⟩ (fun k _ => by rw [Nat.add_assoc]; exact hF.2 (j + k) (Nat.le_add_right _ _)) he (fun g' a' w' hR' => ?_)
  rw [← f1, ← f2] at hR'
  refine ih (i + 1) (fun q o' hq => ?_) _ _ es' g' a' w' ?_ f3 hr' hR' hQ
  ·have := hi (q + 1) o' (by simpa using hq)
   rwa [show i + (q + 1) = i + 1 + q by omega] at this
  ·omega
theorem run_opsK {rd : Option Nat} {dp : Nat} (hB : BodyOk P tab) (hCall : CallOk P tab call) {ops : Array Oper} {nt : Nat} {Q : Exit → Act → World → Prop} {rest : List Nat} {g0 : Gh} {obj0 : Nat → Option Obj} {w0 : World} {s s' : St} {os : List Oper} {cs : List CO} (hc : CompOps P tab nt ops os cs)
  (i : Nat) (hi : ∀ q o, os[q]? = some o → ops[i + q]? = some o) (hr : runRegion call false cs s = some s') {g : Gh} {a : Act} {w : World} (hR : Go1 tab nt g0 obj0 w0 ds g s.get s.obj a w)
  (hQ : ∀ g' a' w', Go1 tab nt g0 obj0 w0 ds g' s'.get s'.obj a' w' → wpOpsIn (fen rd) dp P ops Q rest a' w') : wpOpsIn (fen rd) dp P ops Q (List.range' i os.length ++ rest) a w := by
 unfold runRegion at hr
 simp only at hr
 split at hr
 ·rename_i s2 es hrun
  simp only [Qm, if_false, Qa] at hr
  subst hr
  have hobj : (⟨s.tmps, s.heap ++ List.replicate (countMk cs) none⟩ : St).obj = s.obj := by
   funext q
   unfold St.obj
   simp only
   rcases Qn q s.heap.length with h | h
   ·rw [List.getElem?_append_left h]
   ·rw [List.getElem?_append_right h, Qe h, List.getElem?_replicate]
    split <;> rfl
  refine seq_opsK (n := countMk cs) hB hCall hc i hi 0 _ es g a w (Nat.zero_add _) ⟨by simp, fun q _ => ?_⟩ hrun ?_ hQ
  ·rw [hobj]
   unfold St.obj
   rw [Qe (by omega)]; rfl
  ·rw [hobj]; exact hR
 ·cases hr
theorem CompOps.front {nt : Nat} {ops : Array Oper} {o : Oper} : ∀ {os : List Oper} {cs : List CO}, CompOps P tab nt ops (os ++ [o]) cs → CompOps P tab nt ops os cs.dropLast ∧ ∀ d, o.dst = some d → d < nt
 | [], _, .cons frz h1 h2 h3 h4 h5 => by cases h5; exact ⟨.nil, h3⟩
 | x :: os, _, .cons (c := c) (cs := cs) frz h1 h2 h3 h4 h5 => by
  obtain ⟨k1, k2⟩ := CompOps.front (os := os) h5
  have hne : cs ≠ [] := fun e => by subst e; cases os <;> cases h5
  rw [List.dropLast_cons_of_ne_nil hne]
  exact ⟨.cons frz h1 h2 h3 h4 k1, k2⟩
theorem key_rel {g : Gh} {obj : Nat → Option Obj} {w : World} {k : List D} {e : MapEntry} (h : ∃ ks, DList tab g.im w k ks ∧ e.key.cells.toList = ks ∧ (∀ c, k = [c] → ks = [e.key])) : VRel tab g obj w (keyV k) e.key := by
 obtain ⟨ks, h1, h2, h3⟩ := h
 match k, h1, h3 with
 | [d], h1, h3 =>
  have := h3 d rfl
  subst this
  simp only [DList] at h1
  simp only [keyV, VRel]
  exact h1.1
 | [], h1, _ =>
  have hl := h1.length
  simp only [keyV]
  cases hk : e.key with
  | agg vs =>
   rw [hk] at h2
   simp only [Value.cells] at h2
   simp only [VRel]
   exact ⟨ks, by rw [← h2], CList.ofDs h1⟩
  | _ => rw [hk] at h2; rw [← h2] at hl; simp [Value.cells] at hl
 | x :: y :: r, h1, _ =>
  have hl := h1.length
  simp only [keyV]
  cases hk : e.key with
  | agg vs =>
   rw [hk] at h2
   simp only [Value.cells] at h2
   simp only [VRel]
   exact ⟨ks, by rw [← h2], CList.ofDs h1⟩
  | _ => rw [hk] at h2; rw [← h2] at hl; simp [Value.cells] at hl
theorem eqDs_cells {im im' : Nat → Nat → Prop} {w w' : World} : ∀ {ks : List CK} {x y : List D} {us : List Value}, DList tab im w x us → DList tab im' w' y us → eqDs ks x y ≠ some false
 | ks, [], [], us, _, _ => by cases ks <;> simp [eqDs]
 | ks, x :: xs, y :: ys, u :: us, h1, h2 => by
  simp only [DList] at h1 h2
  cases ks with
  | nil => simp [eqDs]
  | cons k ks =>
   intro h
   simp only [eqDs] at h
   have ih := eqDs_cells (ks := ks) h1.2 h2.2
   have h0 : eqD k x y ≠ some false := by
    intro h0
    cases k <;> cases x <;> cases y <;> simp only [eqD] at h0 <;> try (cases h0; done)
    ·simp only [DRel] at h1 h2
     have := h1.1.symm.trans h2.1
     simp_all
    ·simp only [DRel] at h1 h2
     have := h1.1.symm.trans h2.1
     simp_all
    ·simp only [DRel] at h1 h2
     obtain ⟨s1, e1, e2⟩ := h1.1
     obtain ⟨s2, e3, e4⟩ := h2.1
     rw [e1] at e3
     simp only [Value.string.injEq] at e3
     subst e3
     rw [← e2, ← e4] at h0
     simp at h0
   cases ha : eqD k x y with
   | none => rw [ha] at h; cases h
   | some b =>
    cases hb : eqDs ks xs ys with
    | none => rw [ha, hb] at h; cases h
    | some c =>
     rw [ha, hb] at h
     simp only [Qa] at h
     cases b with
     | false => exact h0 ha
     | true => cases c with | false => exact ih hb | true => cases h
 | ks, [], _ :: _, [], _, h => by simp only [DList] at h
 | ks, _ :: _, [], [], h, _ => by simp only [DList] at h
 | ks, [], _, _ :: _, h, _ => by simp only [DList] at h
 | ks, _ :: _, _, [], h, _ => by simp only [DList] at h
 | ks, _ :: _, [], _ :: _, _, h => by simp only [DList] at h
end
open Go
open Go.RowKit (Below)
open Go.ChangeMaps (setBlock)
def exOf : Ex → Exit
 | .normal => .normal
 | .exit id => .exit id
 | .ret => .ret
structure Marks (n : Nat) (ds : List Deferred) (w : World) : Prop where
 all : ∀ d ∈ ds, ∃ D, d = { target := .collected D, args := #[] } ∧ n ≤ D ∧ w.heap[D]? = some (.deferred (some []))
 diff : ds.Pairwise fun a b => a.target ≠ b.target
theorem Evo.deferred {g : Gh} {obj : Nat → Option Obj} {w : World} {g' : Gh} {obj' : Nat → Option Obj} {w' : World} (h : Evo g obj w g' obj' w') {D : Nat} {x : Option (List Deferred)} (hd : w.heap[D]? = some (.deferred x)) : w'.heap[D]? = some (.deferred x) := by
 have hlt : D < w.heap.size := (Array.getElem?_eq_some_iff.1 hd).1
 rcases h.blk D hlt with k | ⟨c, c', t, fr, k, _⟩ | ⟨es, cl, es', cl', k, _⟩ | ⟨r, st, pe, k, _⟩
 ·rw [k]; exact hd
 ·rw [hd] at k; cases k
 ·rw [hd] at k; cases k
 ·rw [hd] at k; cases k
theorem Marks.evo {n : Nat} {ds : List Deferred} {w w' : World} (h : Marks n ds w) {g : Gh} {obj : Nat → Option Obj} {g' : Gh} {obj' : Nat → Option Obj} (he : Evo g obj w g' obj' w') : Marks n ds w' :=
 ⟨fun d hd => let ⟨D, h1, h2, h3⟩ := h.all d hd; ⟨D, h1, h2, he.deferred h3⟩, h.diff⟩
structure Go2 (tab : Tab) (nt n0 : Nat) (g0 : Gh) (ob0 : Nat → Option Obj) (w0 : World) (g : Gh) (get : Nat → V) (obj : Nat → Option Obj) (a : Act) (w : World) : Prop where
 go : Go1 tab nt g0 ob0 w0 a.defers g get obj a w
 mks : Marks n0 a.defers w
 lo : n0 ≤ w0.heap.size
def OutOk (tab : Tab) (nt : Nat) (o : Nat × Array Nat × Code × Code × List Nat) : Prop :=
 ∃ R, rndOf tab o.1 = some R ∧ R.ps = o.2.1 ∧ R.assign = o.2.2.1 ∧ R.body = o.2.2.2.1 ∧ R.ks = o.2.2.2.2 ∧ R.nt ≤ nt
def RdOk (rd : Option Nat) (g0 : Gh) (ob0 : Nat → Option Obj) : Prop := ∀ l0, rd = some l0 → ∃ id j k c, ob0 id = some (.lp j k c) ∧ (g0.at_ id).blk = l0
def Sound (P : Program) (tab : Tab) (call : CallF) (n nt n0 : Nat) (rd : Option Nat) (dp : Nat) (c : Code) : Prop :=
 ∀ (cc : CCode) (m m' : Notes), comp P tab nt c m = some (cc, m') → (∀ o ∈ m'.outs, OutOk tab nt o) → ∀ (g0 : Gh) (ob0 : Nat → Option Obj) (w0 : World), RdOk rd g0 ob0 → ∀ (s s' : St) (ex : Ex), execC call n cc s = some (ex, s') → ∀ (g : Gh) (a : Act) (w : World), Go2 tab nt n0 g0 ob0 w0 g s.get s.obj a w →
  ∀ (Q : Exit → Act → World → Prop), (∀ g' a' w', Go2 tab nt n0 g0 ob0 w0 g' s'.get s'.obj a' w' → Q (exOf ex) a' w') → c.wpIn (fen rd) dp P Q a w
theorem RdOk.evo {rd : Option Nat} {g0 g : Gh} {ob0 obj : Nat → Option Obj} {w0 w : World} (h : RdOk rd g0 ob0) (he : Evo g0 ob0 w0 g obj w) : RdOk rd g obj := fun l0 e => by
 obtain ⟨id, j, k, c, h1, h2⟩ := h l0 e
 have := he.kevo id
 rw [h1] at this
 obtain ⟨⟨j', c', h3⟩, h4⟩ := this
 exact ⟨id, j', k, c', h3, by rw [h4, h2]⟩
theorem Go2.rebase {tab : Tab} {nt n0 : Nat} {g0 : Gh} {ob0 : Nat → Option Obj} {w0 : World} {g : Gh} {get : Nat → V} {obj : Nat → Option Obj} {a : Act} {w : World} (h : Go2 tab nt n0 g0 ob0 w0 g get obj a w) : Go2 tab nt n0 g obj w g get obj a w :=
 ⟨⟨h.go.rel, .refl _ _ _, h.go.df⟩, h.mks, Nat.le_trans h.lo h.go.evo.size⟩
theorem Go2.onto {tab : Tab} {nt n0 : Nat} {g0 : Gh} {ob0 : Nat → Option Obj} {w0 : World} {g1 : Gh} {ob1 : Nat → Option Obj} {w1 : World} {g : Gh} {get : Nat → V} {obj : Nat → Option Obj} {a : Act} {w : World} (hl : n0 ≤ w0.heap.size) (he : Evo g0 ob0 w0 g1 ob1 w1) (h : Go2 tab nt n0 g1 ob1 w1 g get obj a w) : Go2 tab nt n0 g0 ob0 w0 g get obj a w :=
 ⟨⟨h.go.rel, he.trans h.go.evo, h.go.df⟩, h.mks, hl⟩
section
variable {P : Program} {tab : Tab} {call : CallF}
theorem get_set (s : St) (t : Nat) (v : V) : (s.set t v).get = putF (some t) v s.get := by
 funext j
 show look ((t, v) :: s.tmps) j = _
 rw [look_cons]
 rfl
theorem Go2.put {nt n0 : Nat} {g0 : Gh} {ob0 : Nat → Option Obj} {w0 : World} {g : Gh} {get : Nat → V} {obj : Nat → Option Obj} {a : Act} {w : World} (h : Go2 tab nt n0 g0 ob0 w0 g get obj a w) {d : Nat} (hd : d < nt) {x : V} {v : Value} (hv : VRel tab g obj w x v) : Go2 tab nt n0 g0 ob0 w0 g (putF (some d) x get) obj (a.put (some d) v) w := by
 refine ⟨⟨h.go.rel.put (.refl h.go.rel.heap) (fun d' e => by cases e; exact hd) hv ?_, h.go.evo, ?_⟩, ?_, h.lo⟩
 ·rfl
 ·exact put_df rfl _ _
 ·rw [put_df (a := a) rfl (some d) v]; exact h.mks
theorem round_ok {n nt n0 : Nat} {rd : Option Nat} {dp : Nat} (hB : BodyOk P tab) (hCall : CallOk P tab call) {body : Code} (hS : Sound P tab call n nt n0 rd dp body) {body' : CCode} {m m' : Notes} (hcb : comp P tab nt body m = some (body', m')) (hO : ∀ o ∈ m'.outs, OutOk tab nt o)
  {i3 N pr : Nat} {ops3 : Array Oper} {o3 : Oper} {os3 : List Oper} {cs : List CO} (hc3 : CompOps P tab nt ops3 os3 cs) (h3 : ops3.toList = o3 :: os3) (e1 : o3.dst = some pr) (e3 : o3.guard = none) (hnd : ∀ c, o3.op ≠ .defer c) (hpr : pr < nt)
  {g0 : Gh} {ob0 : Nat → Option Obj} {w0 : World} (hrd : RdOk rd g0 ob0) {t t' : St} {ex : Ex} {x : V} (hx : execC call n (.block N (.seq (.region false cs) body')) (t.set pr x) = some (ex, t')) {g : Gh} {a : Act} {w : World} (hR : Go2 tab nt n0 g0 ob0 w0 g t.get t.obj a w)
  {u : Value} (hrun : (execOp a.eval o3).run P w = .ok (.value u) w) (hu : VRel tab g t.obj w x u) {Q : Exit → Act → World → Prop} (hQ : ∀ g' a' w', Go2 tab nt n0 g0 ob0 w0 g' t'.get t'.obj a' w' → Q (exOf ex) a' w') :
  (Code.block N (.seq (.region i3 ops3 false) body)).wpIn (fen rd) dp P Q a w := by
 refine wpIn_block (wpIn_seq (wpIn_region ?_))
 rw [List.range_eq_range', ← Array.length_toList, h3, List.length_cons, List.range'_succ, wpOpsIn_cons]
 have hget : ∀ q o, (o3 :: os3)[q]? = some o → ops3[q]? = some o := fun q o hq => by rw [← h3, Array.getElem?_toList] at hq; exact hq
 refine op_plain (hget 0 o3 rfl) e3 hnd hrun ?_
 rw [e1]
 have hR1 : Go2 tab nt n0 g0 ob0 w0 g (t.set pr x).get (t.set pr x).obj (a.put (some pr) u) w := by rw [get_set]; exact hR.put hpr hu
 simp only [execC] at hx
 cases hs : runRegion call false cs (t.set pr x) with
 | none => rw [hs] at hx; cases hx
 | some s2 =>
  rw [hs] at hx
  simp only at hx
  rw [← List.append_nil (List.range' _ _)]
  refine run_opsK hB hCall hc3 (0 + 1) (fun q o hq => by rw [show 0 + 1 + q = q + 1 by omega]; exact hget (q + 1) o (by simpa using hq)) hs (Go2.rebase hR1).go (fun g' a' w' hG => ?_)
  simp only [wpOpsIn]
  have hG2 : Go2 tab nt n0 g0 ob0 w0 g' s2.get s2.obj a' w' := ⟨⟨hG.rel, hR1.go.evo.trans hG.evo, rfl⟩, by rw [hG.df]; exact hR1.mks.evo hG.evo, hR1.lo⟩
  show body.wpIn (fen rd) dp P _ a' w'
  cases hb : execC call n body' s2 with
  | none => rw [hb] at hx; cases hx
  | some r =>
   obtain ⟨ex1, s3⟩ := r
   rw [hb] at hx
   refine hS body' m m' hcb hO g0 ob0 w0 hrd s2 s3 ex1 hb g' a' w' hG2 _ (fun g2 a2 w2 h2 => ?_)
   cases ex1 with
   | normal => simp only [Qa, Qj] at hx; obtain ⟨rfl, rfl⟩ := hx; exact hQ g2 a2 w2 h2
   | ret => simp only [Qa, Qj] at hx; obtain ⟨rfl, rfl⟩ := hx; exact hQ g2 a2 w2 h2
   | exit id' =>
    simp only [exOf, Exit.inBlock]
    simp only at hx
    split at hx
    ·rename_i e; simp only [Qa, Qj] at hx; obtain ⟨rfl, rfl⟩ := hx; rw [if_pos e]; exact hQ g2 a2 w2 h2
    ·rename_i e; simp only [Qa, Qj] at hx; obtain ⟨rfl, rfl⟩ := hx; rw [if_neg e]; exact hQ g2 a2 w2 h2
end
open Go
open Go.RowKit (Below)
open Go.ChangeMaps (setBlock)
section
variable {P : Program} {tab : Tab} {call : CallF}
theorem elist_get {g : Gh} {obj : Nat → Option Obj} {w : World} : ∀ {kv : List (List D × V)} {es : List MapEntry}, EList tab g obj w kv es → kv.length = es.length ∧ ∀ (i : Nat) (p : List D × V) (e : MapEntry), kv[i]? = some p → es[i]? = some e →
  (∃ ks, DList tab g.im w p.1 ks ∧ e.key.cells.toList = ks ∧ (∀ c, p.1 = [c] → ks = [e.key])) ∧ VRel tab g obj w p.2 e.val
 | [], [], _ => ⟨rfl, fun i p e h => by simp at h⟩
 | (k, x) :: r, e :: es, h => by
  simp only [EList] at h
  obtain ⟨k1, k2⟩ := elist_get h.2.2
  refine ⟨by simp [k1], fun i p e' hp he => ?_⟩
  cases i with
  | zero =>
   simp only [List.getElem?_cons_zero, Qa] at hp he
   subst hp; subst he
   exact ⟨h.1, h.2.1⟩
  | succ i => exact k2 i p e' (by simpa using hp) (by simpa using he)
 | [], _ :: _, h => by simp only [EList] at h
 | _ :: _, [], h => by simp only [EList] at h
theorem keys_ne {l : List (List D × V)} (h : Keys (l.map (·.1))) {i j : Nat} {p q : List D × V} (hi : l[i]? = some p) (hj : l[j]? = some q) (hne : i ≠ j) : ∃ ks, eqDs ks p.1 q.1 = some false ∨ eqDs ks q.1 p.1 = some false := by
 unfold Keys at h
 have h := List.pairwise_iff_getElem.1 h
 obtain ⟨hi1, hi2⟩ := List.getElem?_eq_some_iff.1 hi
 obtain ⟨hj1, hj2⟩ := List.getElem?_eq_some_iff.1 hj
 rcases Nat.lt_or_gt_of_ne hne with hl | hl
 ·obtain ⟨ks, hk⟩ := h i j (by simpa using hi1) (by simpa using hj1) hl
  simp only [List.getElem_map, hi2, hj2] at hk
  exact ⟨ks, .inl hk⟩
 ·obtain ⟨ks, hk⟩ := h j i (by simpa using hj1) (by simpa using hi1) hl
  simp only [List.getElem_map, hi2, hj2] at hk
  exact ⟨ks, .inr hk⟩
theorem keys_inj {l : List (List D × V)} (h : Keys (l.map (·.1))) {i j : Nat} {p : List D × V} (hi : l[i]? = some p) (hj : l[j]? = some p) : i = j := by
 rcases Nat.decEq i j with hne | e
 ·obtain ⟨ks, hk | hk⟩ := keys_ne h hi hj hne
  ·exact absurd (eqDs_self hk) (by simp)
  ·exact absurd (eqDs_self hk) (by simp)
 ·exact e
theorem align {g g' : Gh} {obj obj' : Nat → Option Obj} {w w' : World} {kv kv0 : List (List D × V)} {es : List MapEntry} (h : EList tab g obj w kv es) (h0 : EList tab g' obj' w' kv0 es) (hp : kv.Perm kv0) (hk : Keys (kv0.map (·.1))) : kv = kv0 := by
 obtain ⟨l1, m1⟩ := elist_get h
 obtain ⟨l0, m0⟩ := elist_get h0
 refine List.ext_getElem? fun i => ?_
 cases hi : kv[i]? with
 | none =>
  have := List.getElem?_eq_none_iff.1 hi
  rw [Qe (by omega)]
 | some p =>
  have hlt := (List.getElem?_eq_some_iff.1 hi).1
  have h0i : kv0[i]? = some (kv0[i]'(by omega)) := Qd (by omega)
  have hei : es[i]? = some (es[i]'(by omega)) := Qd (by omega)
  obtain ⟨j, hj⟩ := List.getElem?_of_mem (hp.mem_iff.1 (List.mem_of_getElem? hi))
  rcases Nat.decEq i j with hne | e
  ·exfalso
   obtain ⟨⟨u1, a1, a2, _⟩, _⟩ := m1 i p _ hi hei
   obtain ⟨⟨u2, b1, b2, _⟩, _⟩ := m0 i _ _ h0i hei
   have hu : u1 = u2 := by rw [← a2, ← b2]
   subst hu
   obtain ⟨ks, hk | hk⟩ := keys_ne hk h0i hj hne
   ·exact eqDs_cells b1 a1 hk
   ·exact eqDs_cells a1 b1 hk
  ·subst e; rw [hj]
theorem left_mem {es : Array MapEntry} {seen : Array Nat} {e : MapEntry} : e ∈ (leftOf es seen).toList ↔ e ∈ es.toList ∧ e.born ∉ seen.toList := by
 unfold leftOf
 simp
theorem left_zero {es : Array MapEntry} {seen : Array Nat} (h : (leftOf es seen).size = 0) : ∀ e ∈ es.toList, e.born ∈ seen.toList := fun e he => by
 refine Classical.byContradiction fun hn => ?_
 have := left_mem.2 ⟨he, hn⟩
 rw [Array.eq_empty_of_size_eq_zero h] at this
 simp at this
theorem left_push {es : Array MapEntry} {seen : Array Nat} {e : MapEntry} (h : e ∈ (leftOf es seen).toList) : (leftOf es (seen.push e.born)).size < (leftOf es seen).size := by
 have h' := left_mem.1 h
 unfold leftOf at *
 have h1 : ∀ s : Array Nat, (es.filter fun e => !s.contains e.born).size = (es.toList.filter fun e => !s.contains e.born).length := fun s => by rw [← Array.toList_filter, Array.length_toList]
 rw [h1, h1]
 refine filter_lt _ _ (fun x hx => ?_) e ?_ ?_ _ h'.1
 ·simp only [Array.contains_push, Bool.not_or, Qi] at hx
  simp_all
 ·simpa using h'.2
 ·simp
theorem step_go2 {nt n0 : Nat} {g0 : Gh} {ob0 : Nat → Option Obj} {w0 : World} {g : Gh} {get : Nat → V} {obj : Nat → Option Obj} {a : Act} {w w1 : World} (h : Go2 tab nt n0 g0 ob0 w0 g get obj a w) {r : Nat} (hr0 : w0.heap.size ≤ r) {m : Option Nat} {b : Nat} {s : Array Nat} {c : Nat} (hr : w.heap[r]? = some (.mapIter m b s c)) (hw : w1 = w ∨ w1 = w.drew) (m' : Option Nat) (b' : Nat) (s' : Array Nat) (c' : Nat) :
  Go2 tab nt n0 g0 ob0 w0 g get obj a (setBlock w1 r (.mapIter m' b' s' c')) ∧ ∀ j, j ≠ r → (setBlock w1 r (.mapIter m' b' s' c')).heap[j]? = w.heap[j]? := by
 have hR1 : HRel tab g obj w1 ∧ (∀ x v, VRel tab g obj w x v → VRel tab g obj w1 x v) ∧ w1.heap = w.heap ∧ w1.os = w.os ∧ w1.tape = w.tape ∧ w1.output = w.output := by
  rcases hw with rfl | rfl
  ·exact ⟨h.go.rel.heap, fun _ _ h => h, rfl, rfl, rfl, rfl⟩
  ·exact ⟨h.go.rel.heap.drew, fun _ _ h => h.drew, rfl, rfl, rfl, rfl⟩
 obtain ⟨k1, k2, k3, k4, k5, k6⟩ := hR1
 have hr1 : w1.heap[r]? = some (.mapIter m b s c) := by rw [k3]; exact hr
 have hlt := (Array.getElem?_eq_some_iff.1 hr1).1
 obtain ⟨p1, p2⟩ := hrel_still (tab := tab) k1 hr1 (y := .mapIter m' b' s' c') (by simp) (by simp) (by simp) (by simp)
 have other : ∀ j, j ≠ r → (setBlock w1 r (.mapIter m' b' s' c')).heap[j]? = w.heap[j]? := fun j e => by rw [← k3]; simp [setBlock, Array.getElem?_setIfInBounds_ne (Ne.symm e)]
 refine ⟨⟨⟨⟨fun t => p2 _ _ (k2 _ _ (h.go.rel.tmp t)), h.go.rel.size, p1⟩, ⟨k4.trans h.go.evo.os, k5.trans h.go.evo.tape, k6.trans h.go.evo.output, ?_, fun j hj => ?_, h.go.evo.im, h.go.evo.imNew, h.go.evo.ownNew, h.go.evo.kevo⟩, h.go.df⟩, ⟨fun d hd => ?_, h.mks.diff⟩, h.lo⟩, other⟩
 ·have : (setBlock w1 r (.mapIter m' b' s' c')).heap.size = w.heap.size := by simp [setBlock, k3]
  rw [this]; exact h.go.evo.size
 ·rw [other j (by omega)]; exact h.go.evo.blk j hj
 ·obtain ⟨D, e1, e2, e3⟩ := h.mks.all d hd
  refine ⟨D, e1, e2, ?_⟩
  rw [other D (fun e => by rw [e, hr] at e3; cases e3)]
  exact e3
structure Head (tab : Tab) (nt n0 : Nat) (g0 : Gh) (ob0 : Nat → Option Obj) (w0 : World) (it nx mr l id r bm since : Nat) (es : Array MapEntry) (clock : Nat) (kvs : List (List D × V)) (t : St) (g : Gh) (a : Act) (w : World) (seen : Array Nat) : Prop where
 go : Go2 tab nt n0 g0 ob0 w0 g t.get t.obj a w
 nxb : t.get nx = .bad
 mrb : t.get mr = .bad
 it : t.get it = .ptr l 0
 mp : t.obj id = some (.cmap kvs)
 rb : g.at_ l = ⟨r, 0, 0⟩
 mb : (g.at_ id).blk = bm
 hr : ∃ c, w.heap[r]? = some (.mapIter (some bm) since seen c) ∧ since ≤ c
 hb : w.heap[bm]? = some (.map es clock)
theorem putF_bad {get : Nat → V} {d : Nat} (h : get d = .bad) : putF (some d) .bad get = get := by
 funext t
 unfold putF
 simp only
 split
 ·rename_i e; rw [← e, h]
 ·rfl
theorem look_keep_none {s : St} {t : Nat} : ∀ {l : List Nat}, l.contains t = false → look (keepTmps s l) t = .bad
 | [], _ => rfl
 | x :: r, h => by
  simp only [List.contains_cons, Bool.or_eq_false_iff] at h
  simp only [keepTmps, look_cons]
  rw [if_neg (fun e => by simp [e] at h)]
  exact look_keep_none h.2
theorem back_bad {ann : Ann} {n : Nat} {s s' : St} (h : back ann n s = some s') {t : Nat} (ht : ann.keep.contains t = false) : s'.get t = .bad := by
 have hlook : ∀ (h : List (Option Obj)) (l : List (Nat × V)), look l t = .bad → look (normTmps h l) t = .bad := by
  intro h l
  induction l with
  | nil => intro _; rfl
  | cons p l ih =>
   obtain ⟨i, v⟩ := p
   intro hb
   simp only [normTmps, look_cons] at *
   split
   ·rename_i e; rw [if_pos e] at hb; rw [hb]; rfl
   ·rename_i e; rw [if_neg e] at hb; exact ih hb
 unfold back at h
 simp only at h
 split at h
 ·split at h
  ·simp only [Qa] at h
   subst h
   exact hlook _ _ (look_keep_none ht)
  ·cases h
 ·simp only [Qa] at h
  subst h
  exact look_keep_none ht
end
open Go
open Go.RowKit (Below)
open Go.ChangeMaps (setBlock)
section
variable {P : Program} {tab : Tab} {call : CallF}
theorem oneM_some {f : St → Option (Ex × St)} {ann : Ann} {it l id pr : Nat} {kvs : List (List D × V)} {t t'' : St} {p : List D × V} {ex : Ex} (h : oneM f ann it l id kvs pr t p = some (ex, t'')) :
  ∃ t', f (t.set pr (.tup [keyV p.1, p.2])) = some (ex, t') ∧ back ann (l + 1) t' = some t'' ∧ t''.get it = .ptr l 0 ∧ t''.obj id = some (.cmap kvs) := by
 unfold oneM at h
 split at h
 ·rename_i ex' t' h1
  split at h
  ·rename_i s h2
   split at h
   ·rename_i h3
    simp only [Qa, Qj] at h
    obtain ⟨rfl, rfl⟩ := h
    unfold headOk at h3
    simp only [Qi] at h3
    obtain ⟨k1, k2⟩ := h3
    refine ⟨t', h1, h2, V.same_eq _ _ k1, ?_⟩
    split at k2
    ·rename_i k hk; rw [hk, sameKvs_eq _ _ k2]
    ·cases k2
   ·cases h
  ·cases h
 ·cases h
theorem map_loop {n nt n0 : Nat} {rd : Option Nat} {dp : Nat} (hB : BodyOk P tab) (hCall : CallOk P tab call) {body : Code} (hS : Sound P tab call n nt n0 rd dp body) {body' : CCode} {m m' : Notes} (hcb : comp P tab nt body m = some (body', m')) (hO : ∀ o ∈ m'.outs, OutOk tab nt o)
  {it i3 N pr : Nat} {ops3 : Array Oper} {o3 : Oper} {os3 : List Oper} {cs : List CO} (hc3 : CompOps P tab nt ops3 os3 cs) (h3 : ops3.toList = o3 :: os3) (e1 : o3.dst = some pr) (e2 : o3.op = .entry (.tmp it)) (e3 : o3.guard = none) (hpr : pr < nt)
  {i2 nx mr : Nat} {ops2 : Array Oper} {o1 o2 : Oper} (h2 : ops2.toList = [o1, o2]) (f1 : o1.dst = some nx) (f2 : o1.op = .next (.tmp it) false) (f3 : o1.guard = none) (f4 : o2.dst = some mr) (f5 : o2.op = .extract (.tmp nx) 0) (f6 : o2.guard = none) (hnx : nx < nt) (hmr : mr < nt)
  (n1 : nx ≠ it) (n2 : mr ≠ it) (n3 : mr ≠ nx)
  {g0 : Gh} {ob0 : Nat → Option Obj} {w0 : World} (hrd : RdOk rd g0 ob0) {l id r bm since clock : Nat} {es : Array MapEntry} {kvs kv0 : List (List D × V)} (hr0 : w0.heap.size ≤ r) (h00 : ∀ i, (ob0 i).isSome = true → i < l + 1)
  {gs : Gh} {obs : Nat → Option Obj} {ws : World} (hE0 : EList tab gs obs ws kv0 es.toList) (hperm : kv0.Perm kvs) (hkeys : Keys (kv0.map (·.1))) (hnd : (es.toList.map (·.born)).Nodup) (hold : ∀ x ∈ es.toList, x.born < since) (hsc0 : since ≤ clock)
  {ann : Ann} (ha1 : ann.keep.contains nx = false) (ha2 : ann.keep.contains mr = false) {out : Nat} {Q : Exit → Act → World → Prop} {O : Ex × St → Prop} {J : St → Array Nat → Prop}
  (hJ1 : ∀ t seen, J t seen → ∀ (i : Nat) p e, kv0[i]? = some p → es.toList[i]? = some e → e.born ∉ seen.toList → (∃ t'', oneM (execC call n (.block N (.seq (.region false cs) body'))) ann it l id kvs pr t p = some (.normal, t'') ∧ J t'' (seen.push e.born)) ∨
   (∃ ex t'', ex ≠ .normal ∧ oneM (execC call n (.block N (.seq (.region false cs) body'))) ann it l id kvs pr t p = some (ex, t'') ∧ O (ex, t'')))
  (hJ2 : ∀ t seen, J t seen → (∀ e ∈ es.toList, e.born ∈ seen.toList) → O (.normal, t))
  (hQ : ∀ o, O o → ∀ g' a' w', Go2 tab nt n0 g0 ob0 w0 g' o.2.get o.2.obj a' w' → Q (exOf (leaveM out o).1) a' w') :
  ∀ (k : Nat) (seen : Array Nat) (t : St) (g : Gh) (a : Act) (w : World), (leftOf es seen).size ≤ k → Head tab nt n0 g0 ob0 w0 it nx mr l id r bm since es clock kvs t g a w seen → J t seen →
   Code.roundsIn (fen rd) dp P (.seq (.region i2 ops2 false) (.seq (.cond (.tmp mr) .skip (.exit out)) (.block N (.seq (.region i3 ops3 false) body)))) (Exit.inBlock out Q) (k + 1) a w := by
 intro k
 induction k with
 | zero => ?_
 | succ k ih => ?_
 all_goals
  intro seen t g a w hk hH hJ
  rw [roundsIn_succ]
  refine wpIn_seq (wpIn_region ?_)
  have hget : ∀ q o, [o1, o2][q]? = some o → ops2[q]? = some o := fun q o hq => by rw [← h2, Array.getElem?_toList] at hq; exact hq
  have hpt : a.eval (.tmp it) = .pointer (some ⟨r, 0, none⟩) := by
   have := hH.go.go.rel.tmp it
   rw [hH.it] at this
   simp only [VRel] at this
   show a.tmps.getD it undef = _
   rw [this.2, hH.rb]
  rw [List.range_eq_range', ← Array.length_toList, h2]
  show wpOpsIn _ _ _ _ _ [0, 1] a w
  rw [wpOpsIn_cons]
  obtain ⟨c, hrr, hsc⟩ := hH.hr
  have hs1 : nx < a.tmps.size := Nat.lt_of_lt_of_le hnx hH.go.go.rel.size
  have hbadN : ∀ {g : Gh} {obj : Nat → Option Obj} {w : World} {v : Value}, VRel tab g obj w .bad v := fun {_ _ _ _} => by simp only [VRel]
  have hput : ∀ {g : Gh} {w : World} {u v : Value}, Go2 tab nt n0 g0 ob0 w0 g t.get t.obj a w → Go2 tab nt n0 g0 ob0 w0 g t.get t.obj ((a.put (some nx) u).put (some mr) v) w := fun {g w u v} h => by
   have k1 := (h.put hnx (x := .bad) (v := u) hbadN).put hmr (x := .bad) (v := v) hbadN
   rw [putF_bad hH.nxb, putF_bad hH.mrb] at k1
   exact k1
  have ext : ∀ (vs : Array Value) (b : Bool) (w : World), vs[0]? = some (.bool b) → (execOp (a.put (some nx) (.tuple vs)).eval o2).run P w = .ok (.value (.bool b)) w := fun vs b w hb => by
   have hv : (a.put (some nx) (.tuple vs)).eval (.tmp nx) = .tuple vs := put_get _ hs1
   simp [execOp, f5, hv, Instr.extract, hb]
  have hmrv : ∀ (u v : Value), ((a.put (some nx) u).put (some mr) v).eval (.tmp mr) = v := fun u v => put_get _ (by rw [put_size]; exact Nat.lt_of_lt_of_le hmr hH.go.go.rel.size)
  rcases run_next_at (P := P) w o1.type r bm since c seen es clock hrr hH.hb hold hsc with ⟨hz, hrun⟩ | ⟨e, he, w1, hw1, hrun⟩
  ·refine op_plain (i := 0) (hget 0 o1 rfl) f3 (fun c hc => by rw [f2] at hc; cases hc) (v := .tuple #[.bool false]) (w' := w) (by simp [execOp, f2, hpt, hrun]) ?_
   rw [f1, wpOpsIn_cons]
   refine op_plain (i := 1) (hget 1 o2 rfl) f6 (fun c hc => by rw [f5] at hc; cases hc) (ext _ false w rfl) ?_
   rw [f4]
   simp only [wpOpsIn]
   refine wpIn_seq (wpIn_cond_false (hmrv _ _) (wpIn_exit ?_))
   have ho := hJ2 t seen hJ (left_zero hz)
   have := hQ _ ho g _ w (hput (u := .tuple #[.bool false]) (v := .bool false) hH.go)
   simp only [Exit.then, Exit.inBlock, if_true]
   exact this
  ·refine op_plain (i := 0) (hget 0 o1 rfl) f3 (fun c hc => by rw [f2] at hc; cases hc) (v := .tuple #[.bool true, e.key, e.val]) (w' := setBlock w1 r (.mapIter (some bm) since (seen.push e.born) clock)) (by simp [execOp, f2, hpt, hrun]) ?_
   rw [f1, wpOpsIn_cons]
   refine op_plain (i := 1) (hget 1 o2 rfl) f6 (fun c hc => by rw [f5] at hc; cases hc) (ext _ true _ rfl) ?_
   rw [f4]
   simp only [wpOpsIn]
   refine wpIn_seq (wpIn_cond_true (hmrv _ _) (wpIn_skip ?_))
   have he' := left_mem.1 he
   obtain ⟨i, hi⟩ := List.getElem?_of_mem he'.1
   obtain ⟨hG0, hoth⟩ := step_go2 hH.go hr0 hrr hw1 (some bm) since (seen.push e.born) clock
   have hG := hput (u := .tuple #[.bool true, e.key, e.val]) (v := .bool true) hG0
   have hne : bm ≠ r := fun e => by have := hH.hb; rw [e, hrr] at this; cases this
   have hrlt : r < w.heap.size := (Array.getElem?_eq_some_iff.1 hrr).1
   have hw1s : w1.heap = w.heap := by rcases hw1 with rfl | rfl <;> rfl
   have hr2 : (setBlock w1 r (.mapIter (some bm) since (seen.push e.born) clock)).heap[r]? = some (.mapIter (some bm) since (seen.push e.born) clock) := by simp [setBlock, hw1s, hrlt]
   have hb2 : (setBlock w1 r (.mapIter (some bm) since (seen.push e.born) clock)).heap[bm]? = some (.map es clock) := by rw [hoth bm hne]; exact hH.hb
   generalize setBlock w1 r (.mapIter (some bm) since (seen.push e.born) clock) = w2 at hG hr2 hb2
   generalize ((a.put (some nx) (.tuple #[.bool true, e.key, e.val])).put (some mr) (.bool true)) = a2 at hG
   have hpt2 : a2.eval (.tmp it) = .pointer (some ⟨r, 0, none⟩) := by
    have := hG.go.rel.tmp it
    rw [hH.it] at this
    simp only [VRel] at this
    show a2.tmps.getD it undef = _
    rw [this.2, hH.rb]
   obtain ⟨es', cl', q1, kv, q2, q3, _, _, q4⟩ := hG.go.rel.heap.map (.inr hH.mp)
   rw [hH.mb, hb2] at q1
   simp only [Qa, Go.Obj.map.injEq] at q1
   obtain ⟨rfl, rfl⟩ := q1
   have hal := align q4 hE0 (q2.trans hperm.symm) hkeys
   subst hal
   obtain ⟨len, rel⟩ := elist_get q4
   have hlt := (List.getElem?_eq_some_iff.1 hi).1
   have hp : kv[i]? = some (kv[i]'(by omega)) := Qd (by omega)
   generalize kv[i]'(by omega) = p at hp
   obtain ⟨hkey, hval⟩ := rel i p e hp hi
   have hent : (execOp a2.eval o3).run P w2 = .ok (.value (.tuple #[e.key, e.val])) w2 := by
    simp [execOp, e2, hpt2, run_entry_at w2 r bm since seen es clock e hr2 hb2 he'.1 hnd]
   have hvr : VRel tab g t.obj w2 (.tup [keyV p.1, p.2]) (.tuple #[e.key, e.val]) := by
    simp only [VRel]
    exact ⟨[e.key, e.val], rfl, by simp only [VList]; exact ⟨key_rel hkey, hval, trivial⟩⟩
   have hlb := left_push he
   rcases hJ1 t seen hJ i p e hp hi he'.2 with ⟨t'', hf, hJ'⟩ | ⟨ex, t'', hex, hf, ho⟩
   ·obtain ⟨t', x1, x2, x3, x4⟩ := oneM_some hf
    refine round_ok hB hCall hS hcb hO hc3 h3 e1 e3 (fun c hc => by rw [e2] at hc; cases hc) hpr (hrd.evo hG.go.evo) x1 hG.rebase hent hvr (fun g' a' w' hG' => ?_)
    have hG3 := Go2.onto hG.lo hG.go.evo hG'
    have hbox : isBox (t.obj l) := by
     have := hG.go.rel.tmp it
     rw [hH.it] at this
     simp only [VRel] at this
     exact this.1
    have hkl := hG'.go.evo.kevo l
    have hkm := hG'.go.evo.kevo id
    rw [hH.mp] at hkm
    have hHead : Head tab nt n0 g0 ob0 w0 it nx mr l id r bm since es clock kvs t'' g' a' w' (seen.push e.born) := by
     refine ⟨⟨back_ok hG3.go h00 x2, hG3.mks, hG3.lo⟩, back_bad x2 ha1, back_bad x2 ha2, x3, x4, ?_, by rw [hkm.2]; exact hH.mb, ⟨_, (hG'.go.evo.blk r (heap_lt hr2)).odd hr2 (by simp) (by simp) (by simp), ?_⟩, ?_⟩
     ·rcases hbox with ⟨x, hx⟩ | ⟨x, hx⟩ <;> rw [hx] at hkl <;> rw [hkl.2] <;> exact hH.rb
     ·exact hsc0
     ·refine (hG'.go.evo.blk bm (heap_lt hb2)).still (o := 0) hb2 (fun ⟨j, hj⟩ => ?_)
      have him := (hG.go.rel.heap.ob id _ hH.mp).1
      rw [hH.mb] at him
      exact hG.go.rel.heap.imm j bm 0 hj him
    first
     | exact ih (seen.push e.born) t'' g' a' w' (by omega) hHead hJ'
     | (exfalso; omega)
   ·obtain ⟨t', x1, x2, x3, x4⟩ := oneM_some hf
    refine round_ok hB hCall hS hcb hO hc3 h3 e1 e3 (fun c hc => by rw [e2] at hc; cases hc) hpr (hrd.evo hG.go.evo) x1 hG.rebase hent hvr (fun g' a' w' hG' => ?_)
    have hG3 := Go2.onto hG.lo hG.go.evo hG'
    have hfin := hQ _ ho g' a' w' ⟨back_ok hG3.go h00 x2, hG3.mks, hG3.lo⟩
    cases ex with
    | normal => exact absurd rfl hex
    | ret => exact hfin
    | exit id' =>
     simp only [exOf, Exit.then, Exit.inBlock]
     simp only [leaveM] at hfin
     split
     ·rename_i e; rw [if_pos e] at hfin; exact hfin
     ·rename_i e; rw [if_neg e] at hfin; exact hfin
end
open Go
open Go.RowKit (Below)
open Go.ChangeMaps (setBlock)
section
variable {P : Program} {tab : Tab} {call : CallF}
theorem plainOp_none {o : Oper} (h : plainOp o = true) : o.guard = none := by simpa [plainOp] using h
theorem lastRange_some {ops : Array Oper} {it : Nat} {m : A} (h : lastRange P tab ops = some (it, m)) :
  ∃ pre o t x k e, ops.toList = pre ++ [o] ∧ o.dst = some it ∧ o.op = .range t x ∧ o.guard = none ∧ P.underlying t = some (.map k e) ∧ compA P tab (some t) x = some m := by
 unfold lastRange at h
 split at h
 ·rename_i o ho
  split at h
  ·rename_i it' t x hd hop
   split at h
   ·rename_i hc
    simp only [Qi] at hc
    split at h
    ·rename_i m' hm
     simp only [Qa, Qj] at h
     obtain ⟨rfl, rfl⟩ := h
     obtain ⟨hmt, hpl⟩ := hc
     unfold isMapT at hmt
     split at hmt
     ·rename_i k e hu
      have hne : ops.toList ≠ [] := fun e => by rw [e] at ho; cases ho
      rw [List.getLast?_eq_some_getLast hne] at ho
      simp only [Qa] at ho
      exact ⟨ops.toList.dropLast, o, t, x, _, _, by rw [← ho]; exact (List.dropLast_concat_getLast hne).symm, hd, hop, plainOp_none hpl, hu, hm⟩
     ·cases hmt
    ·cases h
   ·cases h
  ·cases h
 ·cases h
theorem stepOps_some {it nx mr : Nat} {l : List Oper} (h : stepOps it l = some (nx, mr)) :
  ∃ o1 o2, l = [o1, o2] ∧ o1.dst = some nx ∧ o1.op = .next (.tmp it) false ∧ o1.guard = none ∧ o2.dst = some mr ∧ o2.op = .extract (.tmp nx) 0 ∧ o2.guard = none ∧ nx ≠ it ∧ mr ≠ it ∧ mr ≠ nx := by
 unfold stepOps at h
 split at h
 ·rename_i o o'
  split at h
  ·rename_i nx' i mr' j h1 h2 h3 h4
   split at h
   ·rename_i hc
    simp only [Qa, Qj] at h
    obtain ⟨rfl, rfl⟩ := h
    simp only [Qi, Qh] at hc
    obtain ⟨⟨c1, c2⟩, rfl, rfl, c5, c6, c7⟩ := hc
    exact ⟨o, o', rfl, h1, h2, plainOp_none c1, h3, h4, plainOp_none c2, c5, c6, c7⟩
   ·cases h
  ·cases h
 ·cases h
theorem entryOp_some {it pr : Nat} {l : List Oper} (h : entryOp it l = some pr) : ∃ o os, l = o :: os ∧ o.dst = some pr ∧ o.op = .entry (.tmp it) ∧ o.guard = none := by
 unfold entryOp at h
 split at h
 ·rename_i o os
  split at h
  ·rename_i pr' i h1 h2
   split at h
   ·rename_i hc
    simp only [Qa] at h
    subst h
    simp only [Qi, Qh] at hc
    obtain ⟨c1, rfl, c3⟩ := hc
    exact ⟨o, os, rfl, h1, h2, plainOp_none c1⟩
   ·cases h
  ·cases h
 ·cases h
theorem loopM_some {it nx mr pr out : Nat} {b : Code} (h : loopM it b = some (nx, mr, pr, out)) :
  ∃ i2 ops2 N i3 ops3 body, b = .block out (.loop (.seq (.region i2 ops2 false) (.seq (.cond (.tmp mr) .skip (.exit out)) (.block N (.seq (.region i3 ops3 false) body))))) ∧ stepOps it ops2.toList = some (nx, mr) ∧ entryOp it ops3.toList = some pr := by
 unfold loopM at h
 split at h
 ·rename_i out1 i2 ops2 mr' sk out' N i3 ops3 body
  split at h
  ·rename_i nx' mr1 pr' h1 h2
   split at h
   ·rename_i hc
    simp only [Qa, Qj] at h
    obtain ⟨rfl, rfl, rfl, rfl⟩ := h
    simp only [Qi, Qh] at hc
    obtain ⟨c1, rfl, rfl, _, _⟩ := hc
    have : sk = .skip := by unfold isSkip at c1; split at c1 <;> first | rfl | cases c1
    subst this
    exact ⟨i2, ops2, N, i3, ops3, body, rfl, h1, h2⟩
   ·cases h
  ·cases h
 ·cases h
theorem leaveM_snd (out : Nat) (o : Ex × St) : (leaveM out o).2 = o.2 := by
 obtain ⟨e, s⟩ := o
 cases e <;> simp only [leaveM]
 split <;> rfl
theorem run_next_nil {w : World} {r : Nat} {a b : Nat} {s : Array Nat} (ty : TypeId) (hr : w.heap[r]? = some (.mapIter none a s b)) : (Instr.next (.pointer (some ⟨r, 0, none⟩)) false ty).run P w = .ok (.tuple #[.bool false]) w := by
 simp only [Instr.next, getObj, Sem.run_bind, Sem.run, hr, Result.andThen]
 rfl
theorem fuse_cases (a b : Code) (a' b' : CCode) : fuseM P tab a b a' b' = .seq a' b' ∨
  ∃ ida ops d cs it m nx mr pr out ann c, a = .region ida ops false ∧ a' = .region d cs ∧ lastRange P tab ops = some (it, m) ∧ loopM it b = some (nx, mr, pr, out) ∧ roundM b' = some (ann, c) ∧ ann.keep.contains nx = false ∧ ann.keep.contains mr = false ∧ fuseM P tab a b a' b' = .rangeM cs.dropLast ann m it pr out c := by
 unfold fuseM
 split
 ·rename_i ida ops d cs
  split
  ·rename_i it m h1
   split
   ·rename_i nx mr pr out ann c h2 h3
    split
    ·exact .inl rfl
    ·rename_i hk
     simp only [Bool.or_eq_true, not_or, Bool.not_eq_true] at hk
     exact .inr ⟨ida, ops, d, cs, it, m, nx, mr, pr, out, ann, c, rfl, rfl, h1, h2, h3, hk.1, hk.2, rfl⟩
   ·exact .inl rfl
  ·exact .inl rfl
 ·exact .inl rfl
theorem rangeM_gen {n nt n0 : Nat} {rd : Option Nat} {dp : Nat} (hB : BodyOk P tab) (hCall : CallOk P tab call)
  {ida : Nat} {ops : Array Oper} {y : Code} {it nx mr pr out : Nat} {m : A} (hlast : lastRange P tab ops = some (it, m)) (hloop : loopM it y = some (nx, mr, pr, out))
  {csA : List CO} (hcA : CompOps P tab nt ops ops.toList csA) {y' c : CCode} {ann : Ann} {n1 n2 : Notes} (hy : comp P tab nt y n1 = some (y', n2)) (hround : roundM y' = some (ann, c)) (hk1 : ann.keep.contains nx = false) (hk2 : ann.keep.contains mr = false)
  (hS : ∀ i2 ops2 N i3 ops3 body, y = .block out (.loop (.seq (.region i2 ops2 false) (.seq (.cond (.tmp mr) .skip (.exit out)) (.block N (.seq (.region i3 ops3 false) body))))) → Sound P tab call n nt n0 rd dp body) (hO : ∀ o ∈ n2.outs, OutOk tab nt o)
  {g0 : Gh} {ob0 : Nat → Option Obj} {w0 : World} (hrd : RdOk rd g0 ob0) {s s1 : St} (hs1 : runRegion call false csA.dropLast s = some s1) {g : Gh} {a : Act} {w : World} (hR : Go2 tab nt n0 g0 ob0 w0 g s.get s.obj a w)
  {O : Ex × St → Prop}
  (hcase : (s1.ev m = .d .nm ∧ ∃ s2, back ann (s1.heap.length + 1) (iterM it s1) = some s2 ∧ s2.get it = .ptr s1.heap.length 0 ∧ O (.normal, s2)) ∨
   ∃ id kvs0 s2 s3 kvs, s1.ev m = .map id ∧ ((s1.obj id = some (.map kvs0) ∨ s1.obj id = some (.cmap kvs0)) ∧ (s2 = s1 ∨ s2 = { s1 with heap := s1.heap.map freezeO })) ∧
    back ann (s2.heap.length + 1) (iterM it s2) = some s3 ∧ s3.obj id = some (.cmap kvs) ∧ s3.get it = .ptr s2.heap.length 0 ∧
    ∃ J : St → List (List D × V) → Prop, J s3 [] ∧ (∀ t dn p, J t dn → p ∈ kvs → p ∉ dn → (∃ t'', oneM (execC call n c) ann it s2.heap.length id kvs pr t p = some (.normal, t'') ∧ J t'' (p :: dn)) ∨
     (∃ ex t'', ex ≠ .normal ∧ oneM (execC call n c) ann it s2.heap.length id kvs pr t p = some (ex, t'') ∧ O (ex, t''))) ∧ (∀ t dn, J t dn → (∀ p ∈ kvs, p ∈ dn) → O (.normal, t)))
  {Q : Exit → Act → World → Prop} (hQ : ∀ o, O o → ∀ g' a' w', Go2 tab nt n0 g0 ob0 w0 g' o.2.get o.2.obj a' w' → Q (exOf (leaveM out o).1) a' w') : (Code.seq (.region ida ops false) y).wpIn (fen rd) dp P Q a w := by
 obtain ⟨pre, oR, t, x, kt, et, hops, hd, hop, hg, hu, hm⟩ := lastRange_some hlast
 obtain ⟨i2, ops2, N, i3, ops3, body, rfl, hst, hen⟩ := loopM_some hloop
 obtain ⟨o1, o2, h2, f1, f2, f3, f4, f5, f6, d1, d2, d3⟩ := stepOps_some hst
 obtain ⟨o3, os3, h3, e1, e2, e3⟩ := entryOp_some hen
 have hS := hS _ _ _ _ _ _ rfl
 simp only [comp] at hy
 split at hy
 case h_2 => cases hy
 rename_i q1 nn1 hq1
 simp only [Qa, Qj] at hy
 obtain ⟨rfl, rfl⟩ := hy
 split at hq1
 case h_2 => cases hq1
 rename_i ann' as hanns
 split at hq1
 case h_2 => cases hq1
 rename_i q2 nn2 hq2
 simp only [Qa, Qj] at hq1
 obtain ⟨rfl, rfl⟩ := hq1
 split at hq2
 case h_2 => cases hq2
 rename_i q3 nn3 hq3
 split at hq2
 case h_2 => cases hq2
 rename_i q4 nn4 hq4
 simp only [Qa, Qj] at hq2
 obtain ⟨rfl, rfl⟩ := hq2
 split at hq3
 case h_2 => cases hq3
 rename_i cs2 fz2 hcs2
 split at hq3
 case isFalse => cases hq3
 simp only [Qa, Qj] at hq3
 obtain ⟨rfl, rfl⟩ := hq3
 split at hq4
 case h_2 => cases hq4
 rename_i q5 nn5 hq5
 split at hq4
 case h_2 => cases hq4
 rename_i q6 nn6 hq6
 simp only [Qa, Qj] at hq4
 obtain ⟨rfl, rfl⟩ := hq4
 split at hq6
 case h_2 => cases hq6
 rename_i q7 nn7 hq7
 simp only [Qa, Qj] at hq6
 obtain ⟨rfl, rfl⟩ := hq6
 split at hq7
 case h_2 => cases hq7
 rename_i q8 nn8 hq8
 split at hq7
 case h_2 => cases hq7
 rename_i body' nn9 hcb
 simp only [Qa, Qj] at hq7
 obtain ⟨rfl, rfl⟩ := hq7
 split at hq8
 case h_2 => cases hq8
 rename_i cs3 fz3 hcs3
 split at hq8
 case isFalse => cases hq8
 simp only [Qa, Qj] at hq8
 obtain ⟨rfl, rfl⟩ := hq8
 obtain ⟨k2, _⟩ := compOps_ok hcs2
 obtain ⟨k3, _⟩ := compOps_ok hcs3
 obtain ⟨cd, cs, rfl, hann, rfl⟩ : ∃ cd cs, cs3 = cd :: cs ∧ ann' = ann ∧ c = .block N (.seq (.region false cs) body') := by
  rcases fuse_cases (P := P) (tab := tab) (.region i2 ops2 false) (.seq (.cond (.tmp mr) .skip (.exit out)) (.block N (.seq (.region i3 ops3 false) body))) (.region false cs2) (fuseM P tab (.cond (.tmp mr) .skip (.exit out)) (.block N (.seq (.region i3 ops3 false) body)) q5 (.block N (fuseM P tab (.region i3 ops3 false) body (.region false cs3) body'))) with e | ⟨_, _, _, _, _, _, _, _, _, _, _, _, _, _, _, _, _, _, _, e⟩
  ·rw [e] at hround
   have e' : fuseM P tab (.cond (.tmp mr) .skip (.exit out)) (.block N (.seq (.region i3 ops3 false) body)) q5 (.block N (fuseM P tab (.region i3 ops3 false) body (.region false cs3) body')) = .seq q5 (.block N (fuseM P tab (.region i3 ops3 false) body (.region false cs3) body')) := rfl
   rw [e'] at hround
   rcases fuse_cases (P := P) (tab := tab) (.region i3 ops3 false) body (.region false cs3) body' with e | ⟨_, _, _, _, _, _, _, _, _, _, _, _, _, _, _, _, _, _, _, e⟩
   ·rw [e] at hround
    cases cs3 with
    | nil => simp [roundM] at hround
    | cons cd cs =>
     simp only [roundM, Qa, Qj] at hround
     exact ⟨cd, cs, rfl, hround.1, hround.2.symm⟩
   ·rw [e] at hround; simp [roundM] at hround
  ·rw [e] at hround; simp [roundM] at hround
 subst hann
 rw [h3] at k3
 have hc3 : CompOps P tab nt ops3 os3 cs := by cases k3 with | cons _ _ _ _ _ h => exact h
 have hpr : pr < nt := by cases k3 with | cons _ _ _ h _ _ => exact h pr e1
 have hnx : nx < nt := by rw [h2] at k2; cases k2 with | cons _ _ _ h _ _ => exact h nx f1
 have hmr : mr < nt := by rw [h2] at k2; cases k2 with | cons _ _ _ _ _ h => cases h with | cons _ _ _ h _ _ => exact h mr f4
 rw [hops] at hcA
 obtain ⟨hcP, hitd⟩ := hcA.front
 have hit : it < nt := hitd it hd
 refine wpIn_seq (wpIn_region ?_)
 rw [List.range_eq_range', ← Array.length_toList, hops, Qg, List.length_singleton, List.range'_1_concat]
 have hgetp : ∀ q o, pre[q]? = some o → ops[0 + q]? = some o := fun q o hq => by
  rw [← Array.getElem?_toList, hops, Nat.zero_add, List.getElem?_append_left (List.getElem?_eq_some_iff.1 hq).1]; exact hq
 have hgetR : ops[0 + pre.length]? = some oR := by rw [← Array.getElem?_toList, hops]; simp
 refine run_opsK hB hCall hcP 0 hgetp hs1 hR.rebase.go (fun g1 a1 w1 hG1 => ?_)
 have hR1 : Go2 tab nt n0 g0 ob0 w0 g1 s1.get s1.obj a1 w1 := ⟨⟨hG1.rel, hR.go.evo.trans hG1.evo, rfl⟩, by rw [hG1.df]; exact hR.mks.evo hG1.evo, hR.lo⟩
 have hmv := compA_rel (w := w1) hm hR1.go.rel.tmp
 rw [← ev_eq] at hmv
 rw [wpOpsIn_cons]
 have hnd : ∀ c, oR.op ≠ .defer c := fun c hc => by rw [hop] at hc; cases hc
 have key : ∀ (s2 : St) (g2 : Gh) (z : Go.Obj), Post tab g1 s1.obj w1 g2 s2.obj w1 → s2.get = s1.get → s2.heap.length = s1.heap.length →
   ∃ g3, Go2 tab nt n0 g0 ob0 w0 g3 (iterM it s2).get (iterM it s2).obj (a1.put (some it) (.pointer (some ⟨w1.heap.size, 0, none⟩))) (w1.alloc z) ∧ g3.at_ s2.heap.length = ⟨w1.heap.size, 0, 0⟩ ∧ (∀ j, j ≠ s2.heap.length → g3.at_ j = g2.at_ j) := by
  intro s2 g2 z hP hgt hln
  have hf : s2.obj s2.heap.length = none := by unfold St.obj; rw [Qe (Nat.le_refl _)]; rfl
  obtain ⟨g3, hP3, hat, hot⟩ := iter_alloc (tab := tab) hP.heap hf z
  have hobj : (iterM it s2).obj = updO s2.obj s2.heap.length (some (.cst [])) := obj_push (tm' := s2.tmps) s2.heap _
  have hgt2 : (iterM it s2).get = putF (some it) (.ptr s2.heap.length 0) s1.get := by
   rw [← hgt]
   funext j
   show look ((it, .ptr s2.heap.length 0) :: s2.tmps) j = _
   rw [look_cons]; rfl
  have hPP := hP.trans hP3
  refine ⟨g3, ⟨⟨?_, ?_, ?_⟩, ?_, hR1.lo⟩, hat, hot⟩
  ·rw [hobj]
   refine hR1.go.rel.put hPP (fun d' e => by cases e; exact hit) ?_ hgt2
   simp only [VRel, updO_same]
   exact ⟨.inr ⟨_, rfl⟩, by rw [hat]⟩
  ·rw [hobj]; exact hR1.go.evo.trans hPP.evo
  ·exact put_df rfl _ _
  ·rw [put_df (a := a1) rfl (some it) _]; exact hR1.mks.evo hPP.evo
 have hlow : ∀ (s2 : St), s2.heap.length = s1.heap.length → ∀ i, (ob0 i).isSome = true → i < s2.heap.length + 1 := fun s2 hl i hi => by
  have := obj_lt (kevo_some hR1.go.evo.kevo hi)
  omega
 have hr0 : w0.heap.size ≤ w1.heap.size := hR1.go.evo.size
 have rng : ∀ (bm : Option Nat) (w2 : World), a1.eval x = .map bm → (Instr.range t (.map bm)).run P w1 = .ok (.pointer (some ⟨w1.heap.size, 0, none⟩)) w2 → (execOp a1.eval oR).run P w1 = .ok (.value (.pointer (some ⟨w1.heap.size, 0, none⟩))) w2 := fun bm w2 h1 h2 => by
  simp [execOp, hop, h1, h2]
 rcases hcase with ⟨hev, s2, hbk, hitv, hO1⟩ | ⟨id, kvs0, s2, s3, kvs, hev, hfz, hbk, hmp, hitv, J, j0, j1, j2⟩
 ·-- no map
  rw [hev] at hmv
  simp only [VRel, DRel] at hmv
  refine op_plain hgetR hg hnd (rng none _ hmv (run_range_nilMap w1 t kt et hu)) ?_
  rw [hd]
  simp only [wpOpsIn]
  obtain ⟨g3, hG3, hat, _⟩ := key s1 g1 (.mapIter none 0 #[] 0) (.refl hR1.go.rel.heap) rfl rfl
  have hG4 : Go2 tab nt n0 g0 ob0 w0 g3 s2.get s2.obj _ _ := ⟨back_ok hG3.go (hlow s1 rfl) hbk, hG3.mks, hG3.lo⟩
  generalize a1.put (some it) (.pointer (some ⟨w1.heap.size, 0, none⟩)) = a2 at hG4
  have hr2 : (w1.alloc (.mapIter none 0 #[] 0)).heap[w1.heap.size]? = some (.mapIter none 0 #[] 0) := heap_alloc_new ..
  generalize w1.alloc (.mapIter none 0 #[] 0) = w2 at hG4 hr2
  have hpt : a2.eval (.tmp it) = .pointer (some ⟨w1.heap.size, 0, none⟩) := by
   have := hG4.go.rel.tmp it
   rw [hitv] at this
   simp only [VRel] at this
   show a2.tmps.getD it undef = _
   rw [this.2, hat]
  show Code.wpIn _ _ _ (.block out _) Q a2 w2
  refine wpIn_block (wpIn_loop_rounds 1 ?_)
  rw [roundsIn_succ]
  refine wpIn_seq (wpIn_region ?_)
  have hget : ∀ q o, [o1, o2][q]? = some o → ops2[q]? = some o := fun q o hq => by rw [← h2, Array.getElem?_toList] at hq; exact hq
  rw [List.range_eq_range', ← Array.length_toList, h2]
  show wpOpsIn _ _ _ _ _ [0, 1] a2 w2
  rw [wpOpsIn_cons]
  refine op_plain (i := 0) (hget 0 o1 rfl) f3 (fun c hc => by rw [f2] at hc; cases hc) (v := .tuple #[.bool false]) (w' := w2) (by simp [execOp, f2, hpt, run_next_nil _ hr2]) ?_
  rw [f1, wpOpsIn_cons]
  have hv : (a2.put (some nx) (.tuple #[.bool false])).eval (.tmp nx) = .tuple #[.bool false] := put_get _ (Nat.lt_of_lt_of_le hnx hG4.go.rel.size)
  refine op_plain (i := 1) (hget 1 o2 rfl) f6 (fun c hc => by rw [f5] at hc; cases hc) (v := .bool false) (w' := w2) (by simp [execOp, f5, hv, Instr.extract]) ?_
  rw [f4]
  simp only [wpOpsIn]
  have hmrv : ((a2.put (some nx) (.tuple #[.bool false])).put (some mr) (.bool false)).eval (.tmp mr) = .bool false := put_get _ (by rw [put_size]; exact Nat.lt_of_lt_of_le hmr hG4.go.rel.size)
  refine wpIn_seq (wpIn_cond_false hmrv (wpIn_exit ?_))
  have hbadN : ∀ {g : Gh} {obj : Nat → Option Obj} {w : World} {v : Value}, VRel tab g obj w .bad v := fun {_ _ _ _} => by simp only [VRel]
  have k1 := (hG4.put hnx (x := .bad) (v := .tuple #[.bool false]) hbadN).put hmr (x := .bad) (v := .bool false) hbadN
  rw [putF_bad (back_bad hbk hk1), putF_bad (back_bad hbk hk2)] at k1
  have := hQ _ hO1 g3 _ w2 k1
  simp only [Exit.then, Exit.inBlock, if_true]
  exact this
 ·-- a map
  rw [hev] at hmv
  simp only [VRel] at hmv
  obtain ⟨hmo, hmval⟩ := hmv
  obtain ⟨ho, hfz⟩ := hfz
  obtain ⟨es, clock, hes, _⟩ := hR1.go.rel.heap.map ho
  refine op_plain hgetR hg hnd (rng _ _ hmval (run_range_map w1 t kt et _ es clock hu hes)) ?_
  rw [hd]
  simp only [wpOpsIn]
  show Code.wpIn _ _ _ (.block out _) Q _ _
  obtain ⟨g2, hP, hgt, hln⟩ : ∃ g2, Post tab g1 s1.obj w1 g2 s2.obj w1 ∧ s2.get = s1.get ∧ s2.heap.length = s1.heap.length := by
   rcases hfz with rfl | rfl
   ·exact ⟨g1, .refl hR1.go.rel.heap, rfl, rfl⟩
   ·obtain ⟨g2, hP⟩ := post_freeze (tab := tab) (tm := s1.tmps) s1.heap [] g1 hR1.go.rel.heap
    exact ⟨g2, by simpa using hP, rfl, by simp⟩
  obtain ⟨g3, hG3, hat, hot⟩ := key s2 g2 (.mapIter (some (g1.at_ id).blk) clock #[] clock) hP hgt hln
  have hG4 : Go2 tab nt n0 g0 ob0 w0 g3 s3.get s3.obj _ _ := ⟨back_ok hG3.go (hlow s2 hln) hbk, hG3.mks, hG3.lo⟩
  have hidl : id < s2.heap.length := by
   rw [hln]
   exact obj_lt (by rcases ho with h | h <;> rw [h] <;> rfl)
  have hblk : (g3.at_ id).blk = (g1.at_ id).blk := by
   rw [hot id (by omega)]
   have := hP.evo.kevo id
   rcases ho with h | h <;> rw [h] at this <;> rw [this.2]
  have hbm : (w1.alloc (.mapIter (some (g1.at_ id).blk) clock #[] clock)).heap[(g1.at_ id).blk]? = some (.map es clock) := by rw [heap_alloc_old _ _ (heap_lt hes)]; exact hes
  have hrr : (w1.alloc (.mapIter (some (g1.at_ id).blk) clock #[] clock)).heap[w1.heap.size]? = some (.mapIter (some (g1.at_ id).blk) clock #[] clock) := heap_alloc_new ..
  obtain ⟨es', cl', q1, kv0, q2, q3, q4, q5, q6⟩ := hG4.go.rel.heap.map (.inr hmp)
  rw [hblk, hbm] at q1
  simp only [Qa, Go.Obj.map.injEq] at q1
  obtain ⟨rfl, rfl⟩ := q1
  have hH : Head tab nt n0 g0 ob0 w0 it nx mr s2.heap.length id w1.heap.size (g1.at_ id).blk clock es clock kvs s3 g3 _ _ #[] :=
   ⟨hG4, back_bad hbk hk1, back_bad hbk hk2, hitv, hmp, hat, hblk, ⟨clock, hrr, Nat.le_refl _⟩, hbm⟩
  obtain ⟨len, _⟩ := elist_get q6
  have inj : ∀ {i j : Nat} {p : List D × V} {e e' : MapEntry}, kv0[i]? = some p → kv0[j]? = some p → es.toList[i]? = some e → es.toList[j]? = some e' → e = e' := fun hi hj he he' => by
   have := keys_inj q3 hi hj
   subst this
   rw [he] at he'
   exact Option.some.inj he'
  have injb : ∀ {i j : Nat} {e e' : MapEntry}, es.toList[i]? = some e → es.toList[j]? = some e' → e.born = e'.born → i = j := fun {i j e e'} he he' hb => by
   have l1 := (List.getElem?_eq_some_iff.1 he).1
   have l2 := (List.getElem?_eq_some_iff.1 he').1
   have m1 : (es.toList.map (·.born))[i]? = some e.born := by rw [List.getElem?_map, he]; rfl
   have m2 : (es.toList.map (·.born))[j]? = some e.born := by rw [List.getElem?_map, he', hb]; rfl
   exact nodup_get q5 m1 m2
  have mem : ∀ {i : Nat} {p : List D × V}, kv0[i]? = some p → p ∈ kvs := fun hi => q2.mem_iff.1 (List.mem_of_getElem? hi)
  have ent : ∀ {x : List D × V}, x ∈ kvs → ∃ (i : Nat) (e : MapEntry), kv0[i]? = some x ∧ es.toList[i]? = some e := fun hx => by
   obtain ⟨i, hi⟩ := List.getElem?_of_mem (q2.mem_iff.2 hx)
   have := (List.getElem?_eq_some_iff.1 hi).1
   exact ⟨i, _, hi, Qd (by omega)⟩
  refine wpIn_block (wpIn_loop_rounds _ (map_loop hB hCall hS hcb hO hc3 h3 e1 e2 e3 hpr h2 f1 f2 f3 f4 f5 f6 hnx hmr d1 d2 d3 hrd hr0 (hlow s2 hln) q6 q2 q3 q5 (fun x hx => q4 x hx) (Nat.le_refl _) hk1 hk2
   (O := O) (J := fun t seen => ∃ dn, J t dn ∧ ∀ (i : Nat) p e, kv0[i]? = some p → es.toList[i]? = some e → (e.born ∈ seen.toList ↔ p ∈ dn)) ?_ ?_ hQ _ #[] s3 g3 _ _ (Nat.le_refl _) hH ⟨[], j0, fun i p e _ _ => by simp⟩))
  ·rintro t seen ⟨dn, hj, hiff⟩ i p e hi he hn
   have hpn : p ∉ dn := fun h => hn ((hiff i p e hi he).2 h)
   rcases j1 t dn p hj (mem hi) hpn with ⟨t'', k1, k2⟩ | h
   ·refine .inl ⟨t'', k1, p :: dn, k2, fun j q e' hj' he' => ?_⟩
    rw [Array.toList_push, List.mem_append, List.mem_singleton, List.mem_cons, hiff j q e' hj' he']
    constructor
    ·rintro (h | h)
     ·exact .inr h
     ·have := injb he' he h
      subst this
      rw [hi] at hj'
      exact .inl (Option.some.inj hj').symm
    ·rintro (h | h)
     ·subst h
      have := keys_inj q3 hj' hi
      subst this
      rw [he] at he'
      exact .inr (by rw [Option.some.inj he'])
     ·exact .inl h
   ·exact .inr h
  ·rintro t seen ⟨dn, hj, hiff⟩ hall
   refine j2 t dn hj fun p hp => ?_
   obtain ⟨i, e, hi, he⟩ := ent hp
   exact (hiff i p e hi he).1 (hall e (List.mem_of_getElem? he))
theorem rangeM_sound {n nt n0 : Nat} {rd : Option Nat} {dp : Nat} (hB : BodyOk P tab) (hCall : CallOk P tab call)
  {ida : Nat} {ops : Array Oper} {y : Code} {it nx mr pr out : Nat} {m : A} (hlast : lastRange P tab ops = some (it, m)) (hloop : loopM it y = some (nx, mr, pr, out))
  {csA : List CO} (hcA : CompOps P tab nt ops ops.toList csA) {y' c : CCode} {ann : Ann} {n1 n2 : Notes} (hy : comp P tab nt y n1 = some (y', n2)) (hround : roundM y' = some (ann, c)) (hk1 : ann.keep.contains nx = false) (hk2 : ann.keep.contains mr = false)
  (hS : ∀ i2 ops2 N i3 ops3 body, y = .block out (.loop (.seq (.region i2 ops2 false) (.seq (.cond (.tmp mr) .skip (.exit out)) (.block N (.seq (.region i3 ops3 false) body))))) → Sound P tab call n nt n0 rd dp body) (hO : ∀ o ∈ n2.outs, OutOk tab nt o)
  {g0 : Gh} {ob0 : Nat → Option Obj} {w0 : World} (hrd : RdOk rd g0 ob0) {s s' : St} {ex : Ex} (hx : execC call n (.rangeM csA.dropLast ann m it pr out c) s = some (ex, s')) {g : Gh} {a : Act} {w : World} (hR : Go2 tab nt n0 g0 ob0 w0 g s.get s.obj a w)
  {Q : Exit → Act → World → Prop} (hQ : ∀ g' a' w', Go2 tab nt n0 g0 ob0 w0 g' s'.get s'.obj a' w' → Q (exOf ex) a' w') : (Code.seq (.region ida ops false) y).wpIn (fen rd) dp P Q a w := by
 simp only [execC] at hx
 cases hs1 : runRegion call false csA.dropLast s with
 | none => rw [hs1] at hx; cases hx
 | some s1 =>
  rw [hs1] at hx
  simp only at hx
  unfold rangeMC at hx
  split at hx
  ·rename_i hev
   split at hx
   case h_2 => cases hx
   rename_i s2 hbk
   split at hx
   case isFalse => cases hx
   rename_i hit2
   simp only [Qa, Qj] at hx
   obtain ⟨rfl, rfl⟩ := hx
   exact rangeM_gen hB hCall hlast hloop hcA hy hround hk1 hk2 hS hO hrd hs1 hR (O := fun o => o = (.normal, s2)) (.inl ⟨hev, s2, hbk, V.same_eq _ _ hit2, rfl⟩) (fun o ho g' a' w' h => by subst ho; exact hQ g' a' w' h)
  ·rename_i id hev
   split at hx
   case isFalse => cases hx
   rename_i hmk
   obtain ⟨kvs0, ho⟩ : ∃ kvs0, s1.obj id = some (.map kvs0) ∨ s1.obj id = some (.cmap kvs0) := by
    unfold isMapK at hmk
    split at hmk
    ·rename_i k hk; exact ⟨k, .inl hk⟩
    ·rename_i k hk; exact ⟨k, .inr hk⟩
    ·cases hmk
   have fin : ∀ (s2 : St), (s2 = s1 ∨ s2 = { s1 with heap := s1.heap.map freezeO }) → rangeKvs (execC call n c) ann it pr out id s2 = some (ex, s') →
     (Code.seq (.region ida ops false) y).wpIn (fen rd) dp P Q a w := by
    intro s2 hfz hx
    unfold rangeKvs at hx
    split at hx
    case h_1 => cases hx
    rename_i s3 hbk
    split at hx
    case h_2 => cases hx
    rename_i kvs hmp
    split at hx
    case isFalse => cases hx
    rename_i hhead
    split at hx
    case h_2 => cases hx
    rename_i o hro
    simp only [Qa] at hx
    unfold headOk at hhead
    simp only [Qi] at hhead
    refine rangeM_gen hB hCall hlast hloop hcA hy hround hk1 hk2 hS hO hrd hs1 hR (O := fun x => x = o) (.inr ⟨id, kvs0, s2, s3, kvs, hev, ⟨ho, hfz⟩, hbk, hmp, V.same_eq _ _ hhead.1, ?_⟩) (fun x hxo g' a' w' h => ?_)
    ·cases rounds_of hro with
     | none h => exact ⟨fun t _ => t = s3, rfl, fun t dn p ht hp hn => by subst ht; exact .inl ⟨t, h p hp, rfl⟩, fun t dn ht _ => by rw [ht]⟩
     | one sx xk hxm h1 h2 =>
      refine ⟨fun t dn => (t = s3 ∧ xk ∉ dn) ∨ (t = sx ∧ xk ∈ dn), .inl ⟨rfl, by simp⟩, fun t dn p ht hp hn => .inl ?_, fun t dn ht hall => ?_⟩
      ·by_cases hpx : p = xk
       ·subst hpx
        rcases ht with ⟨rfl, _⟩ | ⟨_, hin⟩
        ·exact ⟨sx, h1, .inr ⟨rfl, List.mem_cons_self⟩⟩
        ·exact absurd hin hn
       ·obtain ⟨k1, k2⟩ := h2 p hp hpx
        rcases ht with ⟨rfl, hni⟩ | ⟨rfl, hin⟩
        ·exact ⟨t, k1, .inl ⟨rfl, by simp only [List.mem_cons, not_or]; exact ⟨fun e => hpx e.symm, hni⟩⟩⟩
        ·exact ⟨t, k2, .inr ⟨rfl, List.mem_cons_of_mem _ hin⟩⟩
      ·rcases ht with ⟨_, hni⟩ | ⟨rfl, _⟩
       ·exact absurd (hall xk hxm) hni
       ·rfl
     | leave _ ho1 xk hxm h0 h1 =>
      refine ⟨fun t dn => t = s3 ∧ xk ∉ dn, ⟨rfl, by simp⟩, fun t dn p ht hp hn => ?_, fun t dn ht hall => absurd (hall xk hxm) ht.2⟩
      obtain ⟨rfl, hni⟩ := ht
      rcases h1 p hp with k1 | k1
      ·refine .inl ⟨t, k1, rfl, ?_⟩
       simp only [List.mem_cons, not_or]
       exact ⟨fun e => by subst e; rw [h0] at k1; exact ho1 (by rw [Option.some.inj k1]), hni⟩
      ·exact .inr ⟨o.1, o.2, ho1, k1, rfl⟩
    ·subst hxo
     have e2 := leaveM_snd out x
     rw [hx] at e2
     rw [hx]
     exact hQ g' a' w' (by rw [← e2] at h; exact h)
   exact fin _ (.inr rfl) hx
  ·cases hx
end
open Go
open Go.RowKit (Below)
theorem stepR_scope {P : Program} {b : Frame} {a : Act} {k : List Item} {cs : List Frame} {w : World} {c : Code} : step P (lone (b.atR a (.code (.scope c) :: k)) cs w) = .next (lone (b.atR a (.code c :: .inScope c :: k)) cs w) :=
 step_lone_go (by simp [stepG, stepG.exec, Frame.atR])
theorem stepR_inScope {P : Program} {b : Frame} {a : Act} {k : List Item} {cs : List Frame} {w : World} {c : Code} : step P (lone (b.atR a (.inScope c :: k)) cs w) = .next (lone (b.atR a k) cs w) :=
 step_lone_go (by simp [stepG, stepG.exec, Frame.atR])
theorem wpIn_scope_straight {F : Fence} {n : Nat} {P : Program} {Q : Exit → Act → World → Prop} {a : Act} {w : World} {c : Code} (h : c.wpIn F n P (Exit.noGoto Q) a w) : (Code.scope c).wpIn F n P Q a w := by
 intro b k cs hro hb hr
 have h0 : (lone (b.atR a (.code (.scope c) :: k)) cs w).fenced P F := fenced_calm hb hr rfl
 obtain ⟨e, a₁, w₁, hq, harr⟩ := h b (.inScope c :: k) cs hro hb hr
 cases e with
 | normal => exact ⟨.normal, a₁, w₁, hq, .head h0 stepR_scope (StepsIn.trans harr (.one (fenced_calm hb hr rfl) stepR_inScope))⟩
 | exit id =>
  have hx : exitTo id (.inScope c :: k) = exitTo id k := by simp [exitTo]
  exact ⟨.exit id, a₁, w₁, hq, fun k' hk => .head h0 stepR_scope (harr.1 k' (by rw [hx]; exact hk)),
   fun hr' hk => let ⟨k₁, h1, h2⟩ := harr.2 hr' (by rw [hx]; exact hk); ⟨k₁, h1, .head h0 stepR_scope h2⟩⟩
 | goto l => exact hq.elim
 | ret => exact ⟨_, a₁, w₁, hq, .of_steps (.one h0 stepR_scope) harr⟩
 | panic ch => exact ⟨_, a₁, w₁, hq, .of_steps (.one h0 stepR_scope) harr⟩
 | outgrown => exact ⟨_, a₁, w₁, hq, .of_steps (.one h0 stepR_scope) harr⟩
theorem comp_outs {P : Program} {tab : Tab} {nt : Nat} : ∀ (c : Code) {cc : CCode} {m m' : Notes}, comp P tab nt c m = some (cc, m') → ∀ o ∈ m.outs, o ∈ m'.outs := by
 intro c
 induction c with
 | region id ops draw =>
  intro cc m m' hc o ho
  simp only [comp] at hc
  split at hc
  ·split at hc
   ·simp only [Qa, Qj] at hc; obtain ⟨_, rfl⟩ := hc; exact ho
   ·cases hc
  ·cases hc
 | seq x y ihx ihy =>
  intro cc m m' hc o ho
  simp only [comp] at hc
  split at hc
  ·rename_i h1
   split at hc
   ·rename_i h2
    simp only [Qa, Qj] at hc; obtain ⟨_, rfl⟩ := hc
    exact ihy h2 o (ihx h1 o ho)
   ·cases hc
  ·cases hc
 | cond c x y ihx ihy =>
  intro cc m m' hc o ho
  simp only [comp] at hc
  split at hc
  ·split at hc
   ·rename_i h1
    split at hc
    ·rename_i h2
     simp only [Qa, Qj] at hc; obtain ⟨_, rfl⟩ := hc
     exact ihy h2 o (ihx h1 o ho)
    ·cases hc
   ·cases hc
  ·cases hc
 | block id c ih =>
  intro cc m m' hc o ho
  simp only [comp] at hc
  split at hc
  ·rename_i h1
   simp only [Qa, Qj] at hc; obtain ⟨_, rfl⟩ := hc
   exact ih h1 o ho
  ·cases hc
 | loop c ih =>
  intro cc m m' hc o ho
  simp only [comp] at hc
  split at hc
  ·split at hc
   ·rename_i h1
    simp only [Qa, Qj] at hc; obtain ⟨_, rfl⟩ := hc
    exact ih h1 o ho
   ·cases hc
  ·cases hc
 | scope c ih =>
  intro cc m m' hc o ho
  simp only [comp] at hc
  exact ih hc o ho
 | rangeFunc f ps a b =>
  intro cc m m' hc o ho
  simp only [comp] at hc
  split at hc
  ·simp only [Qa, Qj] at hc; obtain ⟨_, rfl⟩ := hc
   exact List.mem_cons_of_mem _ ho
  ·cases hc
 | skip => intro cc m m' hc o ho; simp only [comp, Qa, Qj] at hc; obtain ⟨_, rfl⟩ := hc; exact ho
 | label => intro cc m m' hc o ho; simp only [comp, Qa, Qj] at hc; obtain ⟨_, rfl⟩ := hc; exact ho
 | exit => intro cc m m' hc o ho; simp only [comp, Qa, Qj] at hc; obtain ⟨_, rfl⟩ := hc; exact ho
 | ret => intro cc m m' hc o ho; simp only [comp, Qa, Qj] at hc; obtain ⟨_, rfl⟩ := hc; exact ho
 | _ => intro cc m m' hc; simp [comp] at hc
section
variable {P : Program} {tab : Tab} {call : CallF} {ds : List Deferred}
theorem enter_loop {P : Program} {rd : Option Nat} {w : World} {n0 : Nat} {ds : List Deferred} (hn : n0 ≤ w.heap.size) (hm : Marks n0 ds w) (hl : ∀ l0, rd = some l0 → ∃ r, w.heap[l0]? = some (.loop r)) (fn : FuncId) (tmps : Array Value) (ps : Array Tmp) (assign body : Code) :
  ∃ l mark w₁ D, (Instr.enterLoop fn tmps ps assign body rd).run P w = .ok (l, mark) w₁ ∧ w₁.heap[l]? = some (.loop { state := .ready, pending := none, fn, tmps, params := ps, assign, body, defers := D }) ∧
   (∀ b, b < w.heap.size → w₁.heap[b]? = w.heap[b]?) ∧ w.heap.size ≤ l ∧ l < w₁.heap.size ∧ w.heap.size ≤ w₁.heap.size ∧ w₁.os = w.os ∧ w₁.tape = w.tape ∧ w₁.output = w.output ∧ Marks n0 (mark ++ ds) w₁ := by
 have keep1 : ∀ (w : World) (o : Go.Obj) b, b < w.heap.size → (w.alloc o).heap[b]? = w.heap[b]? := fun w o b hb => by
  show (w.heap.push o)[b]? = _
  rw [Array.getElem?_push, if_neg (by omega)]
 have new1 : ∀ (w : World) (o : Go.Obj), (w.alloc o).heap[w.heap.size]? = some o := fun w o => by
  show (w.heap.push o)[w.heap.size]? = _
  simp
 have sz1 : ∀ (w : World) (o : Go.Obj), (w.alloc o).heap.size = w.heap.size + 1 := fun w o => Array.size_push ..
 cases rd with
 | none =>
  refine ⟨w.heap.size + 1, _, _, w.heap.size, run_enterLoop_outer fn tmps ps assign body, ?_, fun b hb => ?_, by omega, ?_, ?_, rfl, rfl, rfl, ⟨fun d hd => ?_, ?_⟩⟩
  ·have := new1 (w.alloc (.deferred (some []))) (.loop { state := .ready, pending := none, fn, tmps, params := ps, assign, body, defers := w.heap.size })
   rw [sz1] at this
   exact this
  ·rw [keep1 _ _ _ (by rw [sz1]; omega), keep1 _ _ _ hb]
  ·rw [sz1, sz1]; omega
  ·rw [sz1, sz1]; omega
  ·rcases List.mem_append.1 hd with hd | hd
   ·simp only [List.mem_singleton] at hd
    exact ⟨w.heap.size, hd, hn, by rw [keep1 _ _ _ (by rw [sz1]; omega)]; exact new1 _ _⟩
   ·obtain ⟨D, h1, h2, h3⟩ := hm.all d hd
    have hlt : D < w.heap.size := (Array.getElem?_eq_some_iff.1 h3).1
    exact ⟨D, h1, h2, by rw [keep1 _ _ _ (by rw [sz1]; omega), keep1 _ _ _ hlt]; exact h3⟩
  ·refine List.pairwise_cons.2 ⟨fun d hd e => ?_, hm.diff⟩
   obtain ⟨D, h1, _, h3⟩ := hm.all d hd
   have hlt : D < w.heap.size := (Array.getElem?_eq_some_iff.1 h3).1
   rw [h1] at e
   simp only [Target.collected.injEq] at e
   omega
 | some l0 =>
  obtain ⟨r, hr⟩ := hl l0 rfl
  refine ⟨w.heap.size, _, _, r.defers, run_enterLoop_inner hr fn tmps ps assign body, new1 _ _, fun b hb => keep1 _ _ _ hb, Nat.le_refl _, ?_, ?_, rfl, rfl, rfl, ⟨fun d hd => ?_, hm.diff⟩⟩
  ·rw [sz1]; omega
  ·rw [sz1]; omega
  ·obtain ⟨D, h1, h2, h3⟩ := hm.all d hd
   have hlt : D < w.heap.size := (Array.getElem?_eq_some_iff.1 h3).1
   exact ⟨D, h1, h2, by rw [keep1 _ _ _ hlt]; exact h3⟩
theorem vlist_tmps {tab : Tab} {g : Gh} {obj : Nat → Option Obj} {w : World} {get : Nat → V} {tmps : Array Value} (h : ∀ t, VRel tab g obj w (get t) (tmps.getD t undef)) : ∀ ks : List Nat, VList tab g obj w (ks.map get) (ks.map fun t => tmps.getD t undef)
 | [] => by simp only [Qc, VList]
 | t :: ts => by simp only [Qb, VList]; exact ⟨h t, vlist_tmps h ts⟩
theorem obj_range {tm tm' : List (Nat × V)} (h : List (Option Obj)) (o : Obj) (n : Nat) : (⟨tm, h ++ some o :: List.replicate n none⟩ : St).obj = updO (⟨tm', h⟩ : St).obj h.length (some o) := by
 rw [show h ++ some o :: List.replicate n none = (h ++ [some o]) ++ List.replicate n none by simp, ← obj_push (tm := tm)]
 funext q
 unfold St.obj
 simp only
 rcases Qn q (h ++ [some o]).length with h1 | h1
 ·rw [List.getElem?_append_left h1]
 ·rw [List.getElem?_append_right h1, Qe h1, List.getElem?_replicate]
  split <;> rfl
theorem rangeArgs_rel {tab : Tab} {g : Gh} {obj : Nat → Option Obj} {w : World} {x y : V} {v u : Value} {k : Nat} {vs : List V} (h : rangeArgs x y = some (k, vs)) (hx : VRel tab g obj w x v) (hy : VRel tab g obj w y u) :
  ∃ fid fs cs, keyOf tab fid = some k ∧ v = .func (.func fid) (List.toArray fs) (List.toArray cs) ∧ VList tab g obj w vs (fs ++ [u] ++ cs) := by
 have h1 : VList tab g obj w [y] [u] := by simp only [VList]; exact ⟨hy, trivial⟩
 unfold rangeArgs at h
 split at h
 ·simp only [Qa, Qj] at h
  obtain ⟨rfl, rfl⟩ := h
  simp only [VRel, DRel] at hx
  obtain ⟨fid, fs, cs, k1, k2, k3, k4⟩ := hx
  exact ⟨fid, fs, cs, k1, k2, ((VList.ofDs (g := g) k3).append h1).append (VList.ofDs (g := g) k4)⟩
 ·cases h
 ·rename_i hne
  simp only [Qa, Qj] at h
  obtain ⟨rfl, rfl⟩ := h
  simp only [VRel] at hx
  rcases hx with ⟨fid, fs, cs, k1, k2, k3, k4, k5⟩ | ⟨id, rfl, _⟩
  ·exact ⟨fid, fs, cs, k1, k2, (k3.append h1).append k4⟩
  ·exact absurd rfl (hne _)
 ·cases h
theorem vlist_imp {tab : Tab} {g g' : Gh} {obj obj' : Nat → Option Obj} {w w' : World} (h : ∀ x v, VRel tab g obj w x v → VRel tab g' obj' w' x v) : ∀ (xs : List V) (us : List Value), VList tab g obj w xs us → VList tab g' obj' w' xs us
 | [], [], _ => by simp only [VList]
 | x :: xs, u :: us, k => by simp only [VList] at *; exact ⟨h _ _ k.1, vlist_imp h xs us k.2⟩
 | [], _ :: _, k => by simp only [VList] at k
 | _ :: _, [], k => by simp only [VList] at k
theorem range_sound {rd : Option Nat} {dp : Nat} (hB : BodyOk P tab) (hCall : CallOk P tab call) {nt n0 : Nat} {g0 : Gh} {ob0 : Nat → Option Obj} {w0 : World}
  (hrd : ∀ l0, rd = some l0 → ∃ id j k c, ob0 id = some (.lp j k c) ∧ (g0.at_ id).blk = l0) {f : Operand} {ps : Array Nat} {assign body : Code} {f' : A} {key res : Nat} {ks : List Nat} (hf : compA P tab none f = some f')
  (hO : OutOk tab nt (key, ps, assign, body, ks)) {s s' : St} {ex : Ex} (hx : rangeC call f' key ks res s = some (ex, s')) {g : Gh} {a : Act} {w : World} (hR : Go2 tab nt n0 g0 ob0 w0 g s.get s.obj a w)
  {Q : Exit → Act → World → Prop} (hQ : ∀ g' a' w', Go2 tab nt n0 g0 ob0 w0 g' s'.get s'.obj a' w' → Q (exOf ex) a' w') : (Code.rangeFunc f ps assign body).wpIn (fen rd) dp P Q a w := by
 unfold rangeC at hx
 simp only at hx
 split at hx
 ·cases hx
 ·rename_i k vs hargs
  split at hx
  ·cases hx
  ·rename_i r is os ns hent
   split at hx
   ·rename_i j key' caps hlp
    split at hx
    ·rename_i ex' hex
     simp only [Qa, Qj] at hx
     obtain ⟨rfl, rfl⟩ := hx
     obtain ⟨R, hR1, hps, has, hbd, hks, hnt⟩ := hO
     simp only at hR1 hps has hbd hks
     have hH := hR.go.rel.heap
     refine wpIn_rangeFunc ?_
     intro fn _
     have hl0 : ∀ l0, rd = some l0 → ∃ r, w.heap[l0]? = some (.loop r) := fun l0 e => by
      obtain ⟨id, j0, k0, c0, h1, h2⟩ := hrd l0 e
      have hk := hR.go.evo.kevo id
      rw [h1] at hk
      obtain ⟨⟨j1, c1, h3⟩, h4⟩ := hk
      obtain ⟨r, _, h5, _⟩ := hH.ob id _ h3
      exact ⟨r, by rw [← h2, ← h4]; exact h5⟩
     obtain ⟨l, mark, w₁, D, hrun, hloop, hkeep, hlo, hhi, hsz, hos, htape, hout, hmk⟩ := enter_loop (P := P) (Nat.le_trans hR.lo hR.go.evo.size) hR.mks hl0 fn a.tmps ps assign body
     have hfresh : s.obj s.heap.length = none := by unfold St.obj; rw [Qe (Nat.le_refl _)]; rfl
     obtain ⟨hH1, hE1, hv1⟩ := step1 (w' := w₁) hH s.heap.length (.lp 0 key (ks.map s.get)) ⟨l, 0, 0⟩ g.im hos htape hout hsz
      (fun b hb => .inl (hkeep b hb)) (fun _ _ h => h) (fun _ _ h => .inl h)
      (fun b o h => by
       unfold owns at h
       simp only [updO_same, updP_same] at h
       subst h
       exact ⟨.inr ⟨hlo, hhi⟩, fun hi => by have := hH.imOld _ _ hi; omega⟩)
      (fun b o h _ q => by
       unfold owns at h
       simp only [updO_same, updP_same] at h
       subst h
       unfold World.frozen?
       simp only [cellAt, hloop])
      (.fresh hfresh _ _ _)
      (fun hv => ⟨_, R, hloop, ⟨rfl, rfl⟩, hR1, rfl, hps.symm, has.symm, hbd.symm, Nat.le_trans hnt hR.go.rel.size, by
       rw [hks]
       exact vlist_tmps (fun t => hv _ _ (hR.go.rel.tmp t)) ks⟩)
     have hob := obj_range (tm := s.tmps) (tm' := s.tmps) s.heap (.lp 0 key (ks.map s.get)) res
     have hy : VRel tab ⟨updP g.at_ s.heap.length ⟨l, 0, 0⟩, g.im⟩ (updO s.obj s.heap.length (some (.lp 0 key (ks.map s.get)))) w₁ (.fn key [.map s.heap.length] []) (.func (.yield l) #[] #[]) := by
      unfold VRel
      exact .inr ⟨_, rfl, rfl, by simp only [updP_same], 0, _, updO_same ..⟩
     have hfv := hv1 _ _ (compA_rel (w := w) hf hR.go.rel.tmp)
     rw [ev_eq] at hargs
     obtain ⟨fid, fs, cs, q1, q2, q3⟩ := rangeArgs_rel hargs hfv hy
     rw [hob] at hent
     refine ⟨l, mark, w₁, { target := .fn (.func fid) (List.toArray cs), args := List.toArray fs ++ #[.func (.yield l) #[] #[]] }, w₁, fid, (fs ++ [Value.func (.yield l) #[] #[]] ++ cs).toArray, w₁, hrun, ?_, fun _ _ => trivial, ?_, fun e => by simp [Fence.wide] at e, ?_⟩
     ·simp only [resolve, rangeCall, q2]
      simp [Deferred.ofValue, Act.eval]
     ·simp [invoke, hB fid k q1]
     ·refine callsIn_fen ((enter_post (hCall.fn fid k q1) hH1 q3 hent (fun kk hkk => ?_)).mono fun e w₃ ⟨v, g3, he, hP, _⟩ => ?_)
      ·rw [updO_ne _ _ (by omega)]
       unfold St.obj
       rw [Qe (by omega)]; rfl
      ·subst he
       have hin := enter_in hent
       have hon := on_obj (⟨none, r, is, true, os, s.heap.length + 1, ns⟩ : Eff) (⟨s.tmps, s.heap ++ some (.lp 0 key (ks.map s.get)) :: List.replicate res none⟩ : St)
        (fun _ i hi => obj_lt (by rw [hob]; exact hin.1 i hi)) (fun kk hkk => by
         have h2 : kk < ns.length := hkk
         have := hin.2
         simp only [Qg, List.length_cons, List.length_replicate]
         omega)
       have h3o := hon.1
       rw [hob] at h3o
       have hlp3 := hlp
       rw [h3o] at hlp3
       have hk := hP.evo.kevo s.heap.length
       simp only [updO_same] at hk
       obtain ⟨_, hat⟩ := hk
       obtain ⟨r3, R3, m1, m2, m3, m4, m5, m6, m7, m8, m9⟩ := hP.heap.ob s.heap.length _ hlp3
       simp only [updP_same] at hat
       rw [hat] at m1
       have hst : r3.state ≠ .busy ∧ r3.pending = (match ex' with | .normal => none | .ret => some .ret | .exit i => some (.exit i)) := by
        match j, hex, m2 with
        | 0, hex, m2 => simp only [exLp, Qa] at hex; subst hex; exact ⟨by rw [m2.1]; simp, m2.2⟩
        | 2, hex, m2 => simp only [exLp, Qa] at hex; subst hex; exact ⟨by rw [m2.1]; simp, m2.2⟩
        | j + 3, hex, m2 => simp only [exLp, Qa] at hex; subst hex; exact ⟨by rw [m2.1]; simp, m2.2⟩
       refine ⟨_, _, run_endLoop m1 hst.1, ?_⟩
       have hl3 : l < w₃.heap.size := (Array.getElem?_eq_some_iff.1 m1).1
       have hown : ∀ o, owns g3 (updL (updL (updO s.obj s.heap.length (some (.lp 0 key (ks.map s.get)))) is os) (List.range' (s.heap.length + 1) ns.length) ns) s.heap.length l o := fun o => by
        unfold owns
        rw [show (updL (updL (updO s.obj s.heap.length (some (.lp 0 key (ks.map s.get)))) is os) (List.range' (s.heap.length + 1) ns.length) ns) s.heap.length = some (.lp j key' caps) from hlp3]
        simp only [hat]
       obtain ⟨z1, z2, z3⟩ := step1 (w' := w₃.putObj l (.loop { r3 with state := .exhausted })) hP.heap s.heap.length (.lp 1 key' caps) ⟨l, 0, 0⟩ g3.im rfl rfl rfl (by simp [World.putObj])
        (fun b hb => by
         by_cases e : b = l
         ·subst e
          exact .inr (.inr (.inr ⟨r3, .exhausted, r3.pending, m1, World.putObj_heap_same hl3, hown⟩))
         ·exact .inl (World.putObj_heap_other (by omega)))
        (fun _ _ h => h) (fun _ _ h => .inl h)
        (fun b o h => by
         unfold owns at h
         simp only [updO_same, updP_same] at h
         subst h
         exact ⟨.inl (hown o), fun hi => hP.heap.imm _ _ _ (hown o) hi⟩)
        (fun b o h _ q => by
         unfold owns at h
         simp only [updO_same, updP_same] at h
         subst h
         unfold World.frozen?
         simp only [cellAt, World.putObj_heap_same hl3])
        (fun i => by
         by_cases e : i = s.heap.length
         ·subst e
          rw [show (updL (updL (updO s.obj s.heap.length (some (.lp 0 key (ks.map s.get)))) is os) (List.range' (s.heap.length + 1) ns.length) ns) s.heap.length = some (.lp j key' caps) from hlp3]
          exact ⟨⟨1, caps, updO_same ..⟩, by simp only [updP_same]; exact hat.symm⟩
         ·have := OEvo.refl g3 (updL (updL (updO s.obj s.heap.length (some (.lp 0 key (ks.map s.get)))) is os) (List.range' (s.heap.length + 1) ns.length) ns) i
          rw [updO_ne _ _ e, show (⟨updP g3.at_ s.heap.length ⟨l, 0, 0⟩, g3.im⟩ : Gh).at_ i = g3.at_ i from updP_ne _ _ e]
          exact this)
        (fun hv => ⟨_, R3, World.putObj_heap_same hl3, trivial, m3, rfl, m5, m6, m7, m8, vlist_imp hv _ _ m9⟩)
       have hlen : s.heap.length < ((⟨none, r, is, true, os, s.heap.length + 1, ns⟩ : Eff).on (⟨s.tmps, s.heap ++ some (.lp 0 key (ks.map s.get)) :: List.replicate res none⟩ : St)).heap.length := by
        rw [hon.2]; simp
       have hfin : ∀ dfs, dfs = mark ++ a.defers → Q (exOf ex') { a with defers := dfs } (w₃.putObj l (.loop { r3 with state := .exhausted })) := fun dfs hd => by
        refine hQ ⟨updP g3.at_ s.heap.length ⟨l, 0, 0⟩, g3.im⟩ _ _ ⟨⟨⟨fun t => ?_, hR.go.rel.size, ?_⟩, ?_, rfl⟩, by rw [hd]; exact hmk.evo (hP.evo.trans z2), hR.lo⟩
        ·rw [obj_set hlen, h3o]
         exact z3 _ _ (hP.vals _ _ (hv1 _ _ (hR.go.rel.tmp t)))
        ·rw [obj_set hlen, h3o]; exact z1
        ·rw [obj_set hlen, h3o]
         exact hR.go.evo.trans (hE1.trans (hP.evo.trans z2))
       generalize w₃.putObj l (.loop { r3 with state := .exhausted }) = W at hfin ⊢
       rw [hst.2]
       cases ex' with
       | normal => exact hfin _ rfl
       | ret => exact wpIn_ret (hfin _ rfl)
       | exit i => exact wpIn_exit (hfin _ rfl)
    ·cases hx
   ·cases hx
theorem ownBoxes_ok {nt : Nat} {g0 : Gh} {ob0 : Nat → Option Obj} {w0 : World} {a : Act} {w : World} : ∀ (l : List (Nat × Nat)) {s : St} {g : Gh}, Go1 tab nt g0 ob0 w0 ds g s.get s.obj a w → ∃ g', Go1 tab nt g0 ob0 w0 ds g' (l.foldl ownBox s).get (l.foldl ownBox s).obj a w
 | [], s, g, h => ⟨g, h⟩
 | t :: l, s, g, h => by
  obtain ⟨g1, h1⟩ := ownBox_ok h t
  exact ownBoxes_ok l h1
def parts : Code → List Code
 | .seq a b => .seq a b :: (parts a ++ parts b)
 | .cond c a b => .cond c a b :: (parts a ++ parts b)
 | .block i c => .block i c :: parts c
 | .loop c => .loop c :: parts c
 | .scope c => .scope c :: parts c
 | c => [c]
theorem parts_self (c : Code) : c ∈ parts c := by cases c <;> simp [parts]
theorem comp_soundP {rd : Option Nat} {dp : Nat} (hB : BodyOk P tab) (hCall : CallOk P tab call) (hm : P.follows .mixedOrders = true) (n : Nat) {nt n0 : Nat} : ∀ (c : Code), ∀ d ∈ parts c, Sound P tab call n nt n0 rd dp d := by
 have one : ∀ {c : Code}, Sound P tab call n nt n0 rd dp c → ∀ d ∈ [c], Sound P tab call n nt n0 rd dp d := fun h d hd => by simp only [List.mem_singleton] at hd; subst hd; exact h
 have cons : ∀ {c : Code} {l : List Code}, Sound P tab call n nt n0 rd dp c → (∀ d ∈ l, Sound P tab call n nt n0 rd dp d) → ∀ d ∈ c :: l, Sound P tab call n nt n0 rd dp d := fun h k d hd => by
  rcases List.mem_cons.1 hd with rfl | hd
  ·exact h
  ·exact k d hd
 have app : ∀ {l l' : List Code}, (∀ d ∈ l, Sound P tab call n nt n0 rd dp d) → (∀ d ∈ l', Sound P tab call n nt n0 rd dp d) → ∀ d ∈ l ++ l', Sound P tab call n nt n0 rd dp d := fun h k d hd => by
  rcases List.mem_append.1 hd with hd | hd
  ·exact h d hd
  ·exact k d hd
 intro c
 induction c with
 | skip =>
  simp only [parts]
  refine one ?_
  intro cc m m' hc hO g0 ob0 w0 hrd s s' ex hx g a w hR Q hQ
  simp only [comp, Qa, Qj] at hc
  obtain ⟨rfl, rfl⟩ := hc
  simp only [execC, Qa, Qj] at hx
  obtain ⟨rfl, rfl⟩ := hx
  exact wpIn_skip (hQ g a w hR)
 | label l =>
  simp only [parts]
  refine one ?_
  intro cc m m' hc hO g0 ob0 w0 hrd s s' ex hx g a w hR Q hQ
  simp only [comp, Qa, Qj] at hc
  obtain ⟨rfl, rfl⟩ := hc
  simp only [execC, Qa, Qj] at hx
  obtain ⟨rfl, rfl⟩ := hx
  exact wpIn_label (hQ g a w hR)
 | exit id =>
  simp only [parts]
  refine one ?_
  intro cc m m' hc hO g0 ob0 w0 hrd s s' ex hx g a w hR Q hQ
  simp only [comp, Qa, Qj] at hc
  obtain ⟨rfl, rfl⟩ := hc
  simp only [execC, Qa, Qj] at hx
  obtain ⟨rfl, rfl⟩ := hx
  exact wpIn_exit (hQ g a w hR)
 | ret =>
  simp only [parts]
  refine one ?_
  intro cc m m' hc hO g0 ob0 w0 hrd s s' ex hx g a w hR Q hQ
  simp only [comp, Qa, Qj] at hc
  obtain ⟨rfl, rfl⟩ := hc
  simp only [execC, Qa, Qj] at hx
  obtain ⟨rfl, rfl⟩ := hx
  exact wpIn_ret (hQ g a w hR)
 | region id ops draw =>
  simp only [parts]
  refine one ?_
  intro cc m m' hc hO g0 ob0 w0 hrd s s' ex hx g a w hR Q hQ
  simp only [comp] at hc
  split at hc
  ·rename_i cs fz hcs
   split at hc
   ·rename_i hcond
    simp only [Qa, Qj] at hc
    obtain ⟨rfl, rfl⟩ := hc
    obtain ⟨k1, k2⟩ := compOps_ok hcs
    simp only [execC] at hx
    split at hx
    ·rename_i s2 hrun
     simp only [Qa, Qj] at hx
     obtain ⟨rfl, rfl⟩ := hx
     have hQ' : ∀ g' a' w', Go1 tab nt g s.obj w a.defers g' s2.get s2.obj a' w' → Q .normal a' w' := fun g' a' w' h => hQ g' a' w' ⟨⟨h.rel, hR.go.evo.trans h.evo, rfl⟩, by rw [h.df]; exact hR.mks.evo h.evo, hR.lo⟩
     cases draw with
     | false => exact region_seq hB hCall k1 hrun hR.go.rel rfl hQ'
     | true =>
      simp only [Bool.not_true, Bool.false_or, Qi] at hcond
      refine region_any hB hCall hm k1 (fun i c hic => ?_) hcond.1 hcond.2 hrun hR.go.rel rfl hQ'
      simpa using k2 rfl i c hic
    ·cases hx
   ·cases hc
  ·cases hc
 | seq x y ihx ihy =>
  simp only [parts]
  refine cons ?_ (app ihx ihy)
  have ihx0 := ihx x (parts_self x)
  have ihy0 := ihy y (parts_self y)
  intro cc m m' hc hO g0 ob0 w0 hrd s s' ex hx g a w hR Q hQ
  simp only [comp] at hc
  split at hc
  ·rename_i x' m1 hx'
   split at hc
   ·rename_i y' m2 hy'
    simp only [Qa, Qj] at hc
    obtain ⟨rfl, rfl⟩ := hc
    rcases fuse_cases (P := P) (tab := tab) x y x' y' with e | ⟨ida, ops, d, cs, it, m0, nx, mr, pr, out, ann, c, rfl, rfl, k1, k2, k3, k4, k5, e⟩
    ·rw [e] at hx
     simp only [execC] at hx
     split at hx
     ·rename_i s1 h1
      exact wpIn_seq (ihx0 x' m m1 hx' (fun o ho => hO o (comp_outs y hy' o ho)) g0 ob0 w0 hrd s s1 .normal h1 g a w hR _ (fun g' a' w' h => ihy0 y' m1 _ hy' hO g0 ob0 w0 hrd s1 s' ex hx g' a' w' h Q hQ))
     ·rename_i hne
      refine wpIn_seq (ihx0 x' m m1 hx' (fun o ho => hO o (comp_outs y hy' o ho)) g0 ob0 w0 hrd s s' ex hx g a w hR _ (fun g' a' w' h => ?_))
      have := hQ g' a' w' h
      cases ex with
      | normal => exact absurd hx (hne s')
      | exit id => exact this
      | ret => exact this
    ·rw [e] at hx
     simp only [comp] at hx'
     split at hx'
     ·rename_i cs0 fz hcs
      split at hx'
      ·simp only [Qa, Qj, CCode.region.injEq] at hx'
       obtain ⟨⟨_, rfl⟩, rfl⟩ := hx'
       refine rangeM_sound hB hCall k1 k2 (compOps_ok hcs).1 hy' k3 k4 k5 (fun i2 ops2 N i3 ops3 body he => ihy body (by rw [he]; simp [parts, parts_self])) hO hrd hx hR hQ
      ·cases hx'
     ·cases hx'
   ·cases hc
  ·cases hc
 | cond c x y ihx ihy =>
  simp only [parts]
  refine cons ?_ (app ihx ihy)
  have ihx0 := ihx x (parts_self x)
  have ihy0 := ihy y (parts_self y)
  intro cc m m' hc hO g0 ob0 w0 hrd s s' ex hx g a w hR Q hQ
  simp only [comp] at hc
  split at hc
  ·rename_i c' hc'
   split at hc
   ·rename_i x' m1 hx'
    split at hc
    ·rename_i y' m2 hy'
     simp only [Qa, Qj] at hc
     obtain ⟨rfl, rfl⟩ := hc
     have hv := compA_rel (w := w) hc' hR.go.rel.tmp
     simp only [execC, ev_eq] at hx
     split at hx
     ·rename_i e
      rw [e] at hv
      simp only [VRel, DRel] at hv
      exact wpIn_cond_true hv (ihx0 x' m m1 hx' (fun o ho => hO o (comp_outs y hy' o ho)) g0 ob0 w0 hrd s s' ex hx g a w hR Q hQ)
     ·rename_i e
      rw [e] at hv
      simp only [VRel, DRel] at hv
      exact wpIn_cond_false hv (ihy0 y' m1 _ hy' hO g0 ob0 w0 hrd s s' ex hx g a w hR Q hQ)
     ·cases hx
    ·cases hc
   ·cases hc
  ·cases hc
 | block id c ih =>
  simp only [parts]
  refine cons ?_ ih
  have ih0 := ih c (parts_self c)
  intro cc m m' hc hO g0 ob0 w0 hrd s s' ex hx g a w hR Q hQ
  simp only [comp] at hc
  split at hc
  ·rename_i c' m1 hc'
   simp only [Qa, Qj] at hc
   obtain ⟨rfl, rfl⟩ := hc
   simp only [execC] at hx
   split at hx
   ·rename_i id' s1 h1
    refine wpIn_block (ih0 c' m m1 hc' hO g0 ob0 w0 hrd s s1 (.exit id') h1 g a w hR _ (fun g' a' w' h => ?_))
    split at hx
    ·rename_i e
     simp only [Qa, Qj] at hx
     obtain ⟨rfl, rfl⟩ := hx
     simp only [exOf, Exit.inBlock, e, if_true]
     exact hQ g' a' w' h
    ·rename_i e
     simp only [Qa, Qj] at hx
     obtain ⟨rfl, rfl⟩ := hx
     simp only [exOf, Exit.inBlock, e, if_false]
     exact hQ g' a' w' h
   ·rename_i hne
    refine wpIn_block (ih0 c' m m1 hc' hO g0 ob0 w0 hrd s s' ex hx g a w hR _ (fun g' a' w' h => ?_))
    have := hQ g' a' w' h
    cases ex with
    | normal => exact this
    | exit id' => exact absurd hx (hne id' s')
    | ret => exact this
  ·cases hc
 | loop c ih =>
  simp only [parts]
  refine cons ?_ ih
  have ih0 := ih c (parts_self c)
  intro cc m m' hc hO g0 ob0 w0 hrd s s' ex hx g a w hR Q hQ
  simp only [comp] at hc
  split at hc
  ·rename_i ann as hann
   split at hc
   ·rename_i c' m1 hc'
    simp only [Qa, Qj] at hc
    obtain ⟨rfl, rfl⟩ := hc
    simp only [execC] at hx
    obtain ⟨g1, hR1⟩ := enter_ok ann hR.go
    have hR1 : Go2 tab nt n0 g0 ob0 w0 g1 (enter ann s).get (enter ann s).obj a w := ⟨hR1, hR.mks, hR.lo⟩
    have hlow : ∀ i, (ob0 i).isSome = true → i < (enter ann s).heap.length := fun i hi => obj_lt (kevo_some hR1.go.evo.kevo hi)
    refine wpIn_loop_rounds n ?_
    have key : ∀ (n' : Nat) (s1 : St) (g : Gh) (a : Act) (w : World), Go2 tab nt n0 g0 ob0 w0 g s1.get s1.obj a w → loopN (execC call n c') (back ann (enter ann s).heap.length) n' s1 = some (ex, s') → Code.roundsIn (fen rd) dp P c Q n' a w := by
     intro n'
     induction n' with
     | zero => intro s1 g a w _ h; cases h
     | succ n' ihn =>
      intro s1 g a w hR h
      rw [roundsIn_succ]
      simp only [loopN] at h
      split at h
      ·rename_i s2 h2
       split at h
       ·rename_i s3 h3
        exact ih0 c' _ m1 hc' hO g0 ob0 w0 hrd s1 s2 .normal h2 g a w hR _ (fun g' a' w' hR' => ihn s3 g' a' w' ⟨back_ok hR'.go hlow h3, hR'.mks, hR'.lo⟩ h)
       ·cases h
      ·rename_i hne
       refine ih0 c' _ m1 hc' hO g0 ob0 w0 hrd s1 s' ex h g a w hR _ (fun g' a' w' h' => ?_)
       have := hQ g' a' w' h'
       cases ex with
       | normal => exact absurd h (hne s')
       | exit id => exact this
       | ret => exact this
    exact key n _ g1 a w hR1 hx
   ·cases hc
  ·cases hc
 | scope c ih =>
  simp only [parts]
  refine cons ?_ ih
  have ih0 := ih c (parts_self c)
  intro cc m m' hc hO g0 ob0 w0 hrd s s' ex hx g a w hR Q hQ
  simp only [comp] at hc
  refine wpIn_scope_straight (ih0 cc m m' hc hO g0 ob0 w0 hrd s s' ex hx g a w hR _ (fun g' a' w' h => ?_))
  have := hQ g' a' w' h
  cases ex <;> exact this
 | rangeFunc f ps assign body =>
  simp only [parts]
  refine one ?_
  intro cc m m' hc hO g0 ob0 w0 hrd s s' ex hx g a w hR Q hQ
  simp only [comp] at hc
  split at hc
  ·rename_i key ks res own rest f' hrg hf
   simp only [Qa, Qj] at hc
   obtain ⟨rfl, rfl⟩ := hc
   obtain ⟨g1, hR1⟩ := ownBoxes_ok own hR.go
   exact range_sound hB hCall hrd hf (hO _ List.mem_cons_self) hx ⟨hR1, hR.mks, hR.lo⟩ hQ
  ·cases hc
 | _ => simp only [parts]; refine one ?_; intro cc m m' hc; simp [comp] at hc
theorem comp_sound {rd : Option Nat} {dp : Nat} (hB : BodyOk P tab) (hCall : CallOk P tab call) (hm : P.follows .mixedOrders = true) (n : Nat) {nt n0 : Nat} (c : Code) : Sound P tab call n nt n0 rd dp c :=
 comp_soundP hB hCall hm n c c (parts_self c)
end
end Ab
