/-
 Each operation of the interpreter is the model's: what is built, cut, indexed, compared.
-/
import Derived.Test.YtdbjkmciidcanaaPack0
import Derived.Laws.Strings
import Derived.Laws.Concat
import Derived.CallsIn
import Derived.RangeFuncRecord
import Derived.Laws.BytesString
import Derived.Laws.MakeOwn
import Derived.MapKept
import Derived.ChangeKeysEq
set_option linter.unusedSimpArgs false
set_option linter.unusedVariables false
set_option linter.unusedSectionVars false
set_option linter.unnecessarySimpa false
namespace Ab
open Go
open Go.RowKit (Below)
section
variable {P : Program} {tab : Tab} {g : Gh} {obj : Nat → Option Obj} {w : World}
theorem zeroOf_rel {t : TypeId} {zv : V} (h : zeroOf P t = some zv) (g : Gh) (obj : Nat → Option Obj) (w : World) : ∃ i z, P.info? t = some i ∧ i.zero = some z ∧ zv.cel = some zv.cells ∧ CList tab g obj w zv.cells z.cells.toList ∧ zv.cells.length = P.cellsOf t ∧ VRel tab g obj w zv z := by
 unfold zeroOf at h
 split at h
 ·rename_i cs z hcs hz0
  cases hi : P.info? t with
  | none => simp [hi] at hz0
  | some i =>
   simp only [hi, Option.bind_some] at hz0
   refine ⟨i, z, rfl, hz0, ?_⟩
   split at h
   ·split at h
    ·rename_i hcond
     cases h
     simp only [Qi, Qh] at hcond
     have hv := fitV_rel (tab := tab) (g := g) (obj := obj) (w := w) hcond.1
     exact ⟨rfl, cel_rel rfl hv, hcond.2, hv⟩
    ·cases h
   ·split at h
    ·rename_i c
     split at h
     ·rename_i hcond
      cases h
      simp only [Qi, Qh] at hcond
      have hv := (fitC_rel (tab := tab) (g := g) (obj := obj) (w := w) hcond.1).1
      have hcel : zv.cel = some zv.cells ∧ zv.cells.length = 1 := by
       have := hcond.1
       cases zv <;> simp [fitC, V.cel, V.cells] at *
      exact ⟨hcel.1, cel_rel hcel.1 hv, by omega, hv⟩
     ·cases h
    ·cases h
 ·cases h
theorem foldl_set_at : ∀ (vs : List Value) (k off : Nat) (cells : Array Value), off + k + vs.length ≤ cells.size → ∀ q : Nat,
  ((vs.zipIdx k).foldl (fun (cs : Array Value) (p : Value × Nat) => cs.setIfInBounds (off + p.2) p.1) cells)[q]? = if off + k ≤ q ∧ q < off + k + vs.length then vs[q - (off + k)]? else cells[q]?
 | [], k, off, cells, h, q => by rw [if_neg (by simp only [List.length_nil]; omega)]; rfl
 | v :: vs, k, off, cells, h, q => by
  simp only [List.zipIdx_cons, List.foldl_cons]
  simp only [List.length_cons] at *
  rw [foldl_set_at vs (k + 1) off _ (by simp; omega) q]
  by_cases h2 : q = off + k
  ·subst h2
   rw [if_neg (by omega), if_pos (by omega), Array.getElem?_setIfInBounds_self_of_lt (by omega), Nat.sub_self]
   rfl
  ·rw [Array.getElem?_setIfInBounds_ne (by omega)]
   by_cases h3 : off + k ≤ q ∧ q < off + k + (vs.length + 1)
   ·rw [if_pos (by omega), if_pos h3]
    obtain ⟨m, rfl⟩ : ∃ m, q = off + k + 1 + m := ⟨q - (off + k + 1), by omega⟩
    rw [show off + k + 1 + m - (off + (k + 1)) = m by omega, show off + k + 1 + m - (off + k) = m + 1 by omega, List.getElem?_cons_succ]
   ·rw [if_neg (by omega), if_neg h3]
theorem foldl_set (vs : List Value) (off : Nat) (cells : Array Value) (h : off + vs.length ≤ cells.size) :
  (vs.zipIdx.foldl (fun (cs : Array Value) (p : Value × Nat) => cs.setIfInBounds (off + p.2) p.1) cells).toList = cells.toList.take off ++ vs ++ cells.toList.drop (off + vs.length) := by
 apply List.ext_getElem?
 intro q
 rw [Array.getElem?_toList, foldl_set_at vs 0 off cells (by omega) q]
 have e2 : (cells.toList.take off).length = off := by simp; omega
 by_cases h1 : q < off
 ·rw [if_neg (by omega), List.append_assoc, List.getElem?_append_left (by omega), List.getElem?_take, if_pos h1, Array.getElem?_toList]
 ·by_cases h3 : q < off + vs.length
  ·rw [if_pos (by omega), List.append_assoc, List.getElem?_append_right (by omega), List.getElem?_append_left (by omega), e2, Nat.add_zero]
  ·rw [if_neg (by omega), List.append_assoc, List.getElem?_append_right (by omega), List.getElem?_append_right (by omega), e2, List.getElem?_drop, Array.getElem?_toList]
   congr 1
   omega
theorem fill_rel {place : Nat → Option (Nat × Nat)} : ∀ {is : List Nat} {ps : List (Nat × Nat × V)} {us : List Value} {cs cs' : List V} {cells : Array Value}, is.length = ps.length →
  (∀ (j : Nat) i off n v, is[j]? = some i → ps[j]? = some (off, n, v) → place i = some (off, n)) → VList tab g obj w (ps.map (·.2.2)) us → CList tab g obj w cs cells.toList → fillV cs ps = some cs' →
  ∃ cells', Instr.fill place cells (is.zip us) = some cells' ∧ CList tab g obj w cs' cells'.toList
 | [], [], [], cs, cs', cells, _, _, _, hc, h => by simp only [fillV, Qa] at h; subst h; exact ⟨cells, rfl, hc⟩
 | i :: is, (off, n, v) :: ps, u :: us, cs, cs', cells, hl, hp, hv, hc, h => by
  simp only [fillV] at h
  simp only [Qb, VList] at hv
  split at h
  ·rename_i c hcel
   split at h
   ·rename_i hn
    split at h
    ·rename_i cs1 hov
     obtain ⟨hle, rfl⟩ := over_some hov
     have hu := cel_rel hcel hv.1
     have hul := hu.length
     have hcl := hc.length
     have hpl := hp 0 i off n v rfl rfl
     have hsz : u.cells.size = n := by simpa [hn] using hul
     have hcell : (u.cells.zipIdx.foldl (fun cs (c, j) => cs.setIfInBounds (off + j) c) cells).toList = cells.toList.take off ++ u.cells.toList ++ cells.toList.drop (off + c.length) := by
      rw [← Array.foldl_toList, Array.toList_zipIdx]
      have := foldl_set u.cells.toList off cells (by simp at hcl ⊢; omega)
      rw [hul] at this
      simpa using this
     obtain ⟨cells', k1, k2⟩ := fill_rel (place := place) (is := is) (ps := ps) (us := us) (cs := cs.take off ++ c ++ cs.drop (off + c.length)) (cs' := cs') (cells := u.cells.zipIdx.foldl (fun cs (c, j) => cs.setIfInBounds (off + j) c) cells)
      (by simpa using hl) (fun j i off n v h1 h2 => hp (j + 1) i off n v (by simpa using h1) (by simpa using h2)) hv.2
      (by rw [hcell]; exact ((hc.take off).append hu).append (hc.drop (off + c.length))) h
     refine ⟨cells', ?_, k2⟩
     simp only [List.zip_cons_cons, Instr.fill, hpl]
     have hno : (u.cells.size ≠ n || decide (off + u.cells.size > cells.size)) = false := by
      simp at hcl
      simp [hsz]; omega
     rw [hno]
     exact k1
    ·cases h
   ·cases h
  ·cases h
 | [], _ :: _, _, _, _, _, hl, _, _, _, _ => by simp at hl
 | _ :: _, [], _, _, _, _, hl, _, _, _, _ => by simp at hl
 | [], [], _ :: _, _, _, _, _, _, hv, _, _ => by simp only [Qc, VList] at hv
 | _ :: _, _ :: _, [], _, _, _, _, _, hv, _, _ => by simp only [Qb, VList] at hv
theorem structParts_rel {fs : Array Field} : ∀ {ps : List (Nat × Operand)} {as : List (Nat × Nat × A)}, structParts P tab fs ps = some as → ∀ {get : Nat → V} {act : Act}, (∀ t, VRel tab g obj w (get t) (act.tmps.getD t undef)) →
  ps.length = as.length ∧ VList tab g obj w (as.map fun p => evA get p.2.2) (ps.map fun p => act.eval p.2) ∧ ∀ (j : Nat) i x off n a, ps[j]? = some (i, x) → as[j]? = some (off, n, a) → ∃ f, fs[i]? = some f ∧ off = f.offset ∧ n = P.cellsOf f.type
 | [], as, h, get, act, hT => by simp [structParts] at h; subst h; simp [VList]
 | (i, x) :: ps, as, h, get, act, hT => by
  simp only [structParts] at h
  split at h
  ·rename_i f hf
   split at h
   ·rename_i a as' h1 h2
    cases h
    obtain ⟨k1, k2, k3⟩ := structParts_rel h2 hT
    refine ⟨by simp [k1], ?_, fun j => ?_⟩
    ·simp only [Qb, VList]; exact ⟨compA_rel h1 hT, k2⟩
    ·cases j with
     | zero => intro i' x' off n a' e1 e2; simp at e1 e2; obtain ⟨rfl, rfl⟩ := e1; obtain ⟨rfl, rfl, rfl⟩ := e2; exact ⟨f, hf, rfl, rfl⟩
     | succ j => intro i' x' off n a' e1 e2; exact k3 j i' x' off n a' (by simpa using e1) (by simpa using e2)
   ·cases h
  ·cases h
theorem arrayParts_rel {e : TypeId} : ∀ {ps : List (Nat × Operand)} {as : List (Nat × Nat × A)}, arrayParts P tab e ps = some as → ∀ {get : Nat → V} {act : Act}, (∀ t, VRel tab g obj w (get t) (act.tmps.getD t undef)) →
  ps.length = as.length ∧ VList tab g obj w (as.map fun p => evA get p.2.2) (ps.map fun p => act.eval p.2) ∧ ∀ (j : Nat) i x off n a, ps[j]? = some (i, x) → as[j]? = some (off, n, a) → off = i * P.cellsOf e ∧ n = P.cellsOf e
 | [], as, h, get, act, hT => by simp [arrayParts] at h; subst h; simp [VList]
 | (i, x) :: ps, as, h, get, act, hT => by
  simp only [arrayParts] at h
  split at h
  ·rename_i a as' h1 h2
   cases h
   obtain ⟨k1, k2, k3⟩ := arrayParts_rel h2 hT
   refine ⟨by simp [k1], ?_, fun j => ?_⟩
   ·simp only [Qb, VList]; exact ⟨compA_rel h1 hT, k2⟩
   ·cases j with
    | zero => intro i' x' off n a' e1 e2; simp at e1 e2; obtain ⟨rfl, rfl⟩ := e1; obtain ⟨rfl, rfl, rfl⟩ := e2; exact ⟨rfl, rfl⟩
    | succ j => intro i' x' off n a' e1 e2; exact k3 j i' x' off n a' (by simpa using e1) (by simpa using e2)
  ·cases h
theorem zipP_map {get : Nat → V} : ∀ (as : List (Nat × Nat × A)), zipP as ((as.map (·.2.2)).map (evA get)) = as.map fun p => (p.1, p.2.1, evA get p.2.2)
 | [] => rfl
 | (a, b, c) :: as => by simp only [Qb, zipP, zipP_map as]
theorem zipI_map {get : Nat → V} : ∀ (as : List (Nat × A)), zipI as ((as.map (·.2)).map (evA get)) = as.map fun p => (p.1, evA get p.2)
 | [] => rfl
 | (a, c) :: as => by simp only [Qb, zipI, zipI_map as]
theorem zip_fst_map {α β γ : Type} (f : β → γ) : ∀ (ps : List (α × β)), (ps.map (·.1)).zip (ps.map fun p => f p.2) = ps.map fun p => (p.1, f p.2)
 | [] => rfl
 | p :: ps => by simp [zip_fst_map f ps]
theorem build_struct {t : TypeId} {fs : Array Field} (hu : P.underlying t = some (.struct fs)) (hall : (fs.toList.all fun f => (P.info? f.type).isSome) = true) {z : List V} (hz : zeroOf P t = some (.agg z)) {ps : List (Nat × Operand)} {as : List (Nat × Nat × A)}
  (hp : structParts P tab fs ps = some as) {get : Nat → V} {act : Act} (hT : ∀ t, VRel tab g obj w (get t) (act.tmps.getD t undef)) {cs : List V} (h : fillV z (zipP as ((as.map (·.2.2)).map (evA get))) = some cs) :
  ∃ cells, P.built t (ps.map fun p => (p.1, act.eval p.2)) = some cells ∧ CList tab g obj w cs cells.toList := by
 obtain ⟨i, z0, hi, hz0, _, hzc, _, _⟩ := zeroOf_rel (tab := tab) hz g obj w
 obtain ⟨k1, k2, k3⟩ := structParts_rel hp hT
 rw [zipP_map] at h
 have hplaces : ∀ (l : List Field), (l.all fun f => (P.info? f.type).isSome) = true → l.mapM (fun f => (P.info? f.type).map fun i => (f.offset, i.size)) = some (l.map fun f => (f.offset, P.cellsOf f.type)) := by
  intro l
  induction l with
  | nil => intro _; rfl
  | cons f l ih =>
   intro ha
   simp only [List.all_cons, Qi] at ha
   obtain ⟨i, hi⟩ := Option.isSome_iff_exists.1 ha.1
   simp [List.mapM_cons, hi, ih ha.2, Program.cellsOf]
 unfold Program.built
 simp only [hi, hu, hz0, hplaces _ hall]
 have := fill_rel (tab := tab) (g := g) (obj := obj) (w := w) (place := fun x => ((fs.toList.map fun f => (f.offset, P.cellsOf f.type)).toArray)[x]?) (is := ps.map (·.1)) (ps := as.map fun p => (p.1, p.2.1, evA get p.2.2)) (us := ps.map fun p => act.eval p.2) (cs := z) (cs' := cs) (cells := z0.cells)
  (by simp [k1]) (fun j i off n v e1 e2 => by
   rw [List.getElem?_map] at e1 e2
   cases hpj : ps[j]? with
   | none => simp [hpj] at e1
   | some p =>
    cases haj : as[j]? with
    | none => simp [haj] at e2
    | some a =>
     simp [hpj] at e1
     simp [haj] at e2
     obtain ⟨f, m1, m2, m3⟩ := k3 j p.1 p.2 a.1 a.2.1 a.2.2 hpj haj
     obtain ⟨rfl, rfl, rfl⟩ := e2
     subst e1
     simp only [List.getElem?_toArray, List.getElem?_map, Array.getElem?_toList, m1, Option.map_some]
     rw [← m2, ← m3]) (by rw [List.map_map]; exact k2) hzc h
 obtain ⟨cells, m1, m2⟩ := this
 rw [zip_fst_map] at m1
 exact ⟨cells, m1, m2⟩
theorem build_array {t e : TypeId} {n : Nat} (hu : P.underlying t = some (.array n e)) (hall : (P.info? e).isSome = true) {z : List V} (hz : zeroOf P t = some (.agg z)) {ps : List (Nat × Operand)} {as : List (Nat × Nat × A)}
  (hp : arrayParts P tab e ps = some as) {get : Nat → V} {act : Act} (hT : ∀ t, VRel tab g obj w (get t) (act.tmps.getD t undef)) {cs : List V} (h : fillV z (zipP as ((as.map (·.2.2)).map (evA get))) = some cs) :
  ∃ cells, P.built t (ps.map fun p => (p.1, act.eval p.2)) = some cells ∧ CList tab g obj w cs cells.toList := by
 obtain ⟨i, z0, hi, hz0, _, hzc, _, _⟩ := zeroOf_rel (tab := tab) hz g obj w
 obtain ⟨k1, k2, k3⟩ := arrayParts_rel hp hT
 rw [zipP_map] at h
 obtain ⟨ie, hie⟩ := Option.isSome_iff_exists.1 hall
 have hsz : ie.size = P.cellsOf e := by unfold Program.cellsOf; simp [hie]
 unfold Program.built
 simp only [hi, hu, hz0, hie, hsz]
 have := fill_rel (tab := tab) (g := g) (obj := obj) (w := w) (place := fun i => some (i * P.cellsOf e, P.cellsOf e)) (is := ps.map (·.1)) (ps := as.map fun p => (p.1, p.2.1, evA get p.2.2)) (us := ps.map fun p => act.eval p.2) (cs := z) (cs' := cs) (cells := z0.cells)
  (by simp [k1]) (fun j i off n v e1 e2 => by
   rw [List.getElem?_map] at e1 e2
   cases hpj : ps[j]? with
   | none => simp [hpj] at e1
   | some p =>
    cases haj : as[j]? with
    | none => simp [haj] at e2
    | some a =>
     simp [hpj] at e1
     simp [haj] at e2
     obtain ⟨m2, m3⟩ := k3 j p.1 p.2 a.1 a.2.1 a.2.2 hpj haj
     obtain ⟨rfl, rfl, rfl⟩ := e2
     subst e1
     rw [m2, m3]) (by rw [List.map_map]; exact k2) hzc h
 obtain ⟨cells, m1, m2⟩ := this
 rw [zip_fst_map] at m1
 exact ⟨cells, m1, m2⟩
end
open Go
open Go.RowKit (Below)
section
variable {P : Program} {tab : Tab} {g : Gh} {obj : Nat → Option Obj} {w : World}
theorem zero_rows (z : Array Value) (hz : z.size ≠ 0) : ∀ n : Nat, ((Array.range (n * z.size)).map fun i => z[i % z.size]!).toList = (List.replicate n z.toList).flatten
 | 0 => by simp
 | n + 1 => by
  have ih := zero_rows z hz n
  simp only [Array.toList_map, Array.toList_range] at *
  rw [Nat.add_mul, Nat.one_mul, Nat.add_comm (n * z.size), List.range_add, List.map_append, List.map_map, List.replicate_succ, List.flatten_cons, ← ih]
  congr 1
  ·apply List.ext_getElem?
   intro q
   rw [List.getElem?_map]
   rcases Qn q z.size with h | h
   ·rw [List.getElem?_range h, Option.map_some, Nat.mod_eq_of_lt h, Array.getElem?_toList, Array.getElem?_eq_getElem h, getElem!_pos z q h]
   ·rw [Qe (by simp; omega), Array.getElem?_toList, Array.getElem?_eq_none h]; rfl
  ·apply List.map_congr_left
   intro i _
   simp
theorem set_flatten : ∀ {xs : List (List D)} {i sz : Nat} {ds : List D}, (∀ r ∈ xs, r.length = sz) → ds.length = sz → i < xs.length → (xs.set i ds).flatten = xs.flatten.take (i * sz) ++ ds ++ xs.flatten.drop (i * sz + sz)
 | x :: xs, 0, sz, ds, h, hd, _ => by
  have hx : x.length = sz := h x (by simp)
  simp only [List.set_cons_zero, List.flatten_cons, Nat.zero_mul, List.take_zero, List.nil_append, Nat.zero_add]
  rw [← hx, List.drop_append_of_le_length (Nat.le_refl _), List.drop_length, List.nil_append]
 | x :: xs, i + 1, sz, ds, h, hd, hi => by
  have hx : x.length = sz := h x (by simp)
  have ih := set_flatten (xs := xs) (i := i) (sz := sz) (ds := ds) (fun r hr => h r (by simp [hr])) hd (by simpa using hi)
  simp only [List.set_cons_succ, List.flatten_cons, ih]
  have t1 : ∀ (k : Nat) (l : List D), (x ++ l).take (x.length + k) = x ++ l.take k := fun k l => by rw [List.take_append, List.take_of_length_le (by omega), Nat.add_sub_cancel_left]
  have t2 : ∀ (k : Nat) (l : List D), (x ++ l).drop (x.length + k) = l.drop k := fun k l => by rw [List.drop_append, List.drop_of_length_le (by omega), Nat.add_sub_cancel_left, List.nil_append]
  rw [show (i + 1) * sz = x.length + i * sz by rw [Nat.add_mul, hx]; omega, show x.length + i * sz + sz = x.length + (i * sz + sz) by omega, t1, t2]
  simp
theorem fillR_rel {sz : Nat} : ∀ {is : List Nat} {vs : List V} {us : List Value} {xs xs' : List (List D)} {cells : Array Value}, is.length = vs.length → VList tab g obj w vs us → (∀ r ∈ xs, r.length = sz) →
  DList tab g.im w xs.flatten cells.toList → fillR sz xs (is.zip vs) = some xs' →
  ∃ cells', Instr.fill (fun i => some (i * sz, sz)) cells (is.zip us) = some cells' ∧ (∀ r ∈ xs', r.length = sz) ∧ xs'.length = xs.length ∧ DList tab g.im w xs'.flatten cells'.toList
 | [], [], [], xs, xs', cells, _, _, hs, hd, h => by simp only [List.zip_nil_left, fillR, Qa] at h; subst h; exact ⟨cells, rfl, hs, rfl, hd⟩
 | i :: is, v :: vs, u :: us, xs, xs', cells, hl, hv, hs, hd, h => by
  simp only [VList] at hv
  simp only [List.zip_cons_cons, fillR] at h
  split at h
  ·rename_i ds hds
   split at h
   ·rename_i hcond
    obtain ⟨hdl, hi⟩ := hcond
    have hc := cel_rel (toDs_cel hds) hv.1
    have hu : DList tab g.im w ds u.cells.toList := toDs_rel hds hc.toV
    have hul := hu.length
    have hcl := hd.length
    rw [flatten_length hs] at hcl
    have hle : (i + 1) * sz ≤ xs.length * sz := Nat.mul_le_mul_right _ hi
    rw [Nat.add_mul] at hle
    have hsz : u.cells.size = sz := by simp at hul; omega
    have hcell : (u.cells.zipIdx.foldl (fun cs (c, j) => cs.setIfInBounds (i * sz + j) c) cells).toList = cells.toList.take (i * sz) ++ u.cells.toList ++ cells.toList.drop (i * sz + sz) := by
     rw [← Array.foldl_toList, Array.toList_zipIdx]
     have := foldl_set u.cells.toList (i * sz) cells (by simp at hcl ⊢; omega)
     rw [hul, hdl] at this
     simpa using this
    have hsl : ∀ r ∈ xs.set i ds, r.length = sz := fun r hr => by
     rcases List.mem_or_eq_of_mem_set hr with h | h
     ·exact hs r h
     ·subst h; exact hdl
    obtain ⟨cells', k1, k2, k3, k4⟩ := fillR_rel (sz := sz) (is := is) (vs := vs) (us := us) (xs := xs.set i ds) (xs' := xs') (cells := u.cells.zipIdx.foldl (fun cs (c, j) => cs.setIfInBounds (i * sz + j) c) cells)
     (by simpa using hl) hv.2 hsl (by
      rw [hcell, set_flatten hs hdl hi]
      exact ((hd.take _).append hu).append (hd.drop _)) h
    refine ⟨cells', ?_, k2, by rw [k3]; simp, k4⟩
    simp only [List.zip_cons_cons, Instr.fill]
    have hno : (u.cells.size ≠ sz || decide (i * sz + u.cells.size > cells.size)) = false := by
     simp at hcl
     simp [hsz]; omega
    rw [hno]
    exact k1
   ·cases h
  ·cases h
 | [], _ :: _, _, _, _, _, hl, _, _, _, _ => by simp at hl
 | _ :: _, [], _, _, _, _, hl, _, _, _, _ => by simp at hl
 | [], [], _ :: _, _, _, _, _, hv, _, _, _ => by simp only [VList] at hv
 | _ :: _, _ :: _, [], _, _, _, _, hv, _, _, _ => by simp only [VList] at hv
theorem sliceParts_rel {e : TypeId} : ∀ {ps : List (Nat × Operand)} {as : List (Nat × A)}, sliceParts P tab e ps = some as → ∀ {get : Nat → V} {act : Act}, (∀ t, VRel tab g obj w (get t) (act.tmps.getD t undef)) →
  ps.map (·.1) = as.map (·.1) ∧ VList tab g obj w (as.map fun p => evA get p.2) (ps.map fun p => act.eval p.2)
 | [], as, h, get, act, hT => by simp [sliceParts] at h; subst h; simp [VList]
 | (i, x) :: ps, as, h, get, act, hT => by
  simp only [sliceParts] at h
  split at h
  ·rename_i a as' h1 h2
   cases h
   obtain ⟨k1, k2⟩ := sliceParts_rel h2 hT
   refine ⟨by simp [k1], ?_⟩
   simp only [Qb, VList]; exact ⟨compA_rel h1 hT, k2⟩
  ·cases h
theorem zipI_zip : ∀ (as : List (Nat × A)) (get : Nat → V), (as.map fun p => (p.1, evA get p.2)) = (as.map (·.1)).zip (as.map fun p => evA get p.2)
 | [], _ => rfl
 | a :: as, get => by simp [zipI_zip as get]
theorem bsl_sound (hH : HRel tab g obj w) {t e : TypeId} (hu : P.underlying t = some (.slice e)) {z : V} (hz : zeroOf P e = some z) {zd : List D} (hzd : V.toDs z.cells = some zd) {ps : List (Nat × Operand)} {as : List (Nat × A)}
  (hp : sliceParts P tab e ps = some as) (hc : P.cellsOf e ≠ 0) (hzl : zd.length = P.cellsOf e) {n : Nat} (hn : n * P.cellsOf e ≤ 16777216) {get : Nat → V} {act : Act} (hT : ∀ t, VRel tab g obj w (get t) (act.tmps.getD t undef))
  {xs : List (List D)} (h : fillR (P.cellsOf e) (List.replicate n zd) (zipI as ((as.map (·.2)).map (evA get))) = some xs) {fresh : Nat} (hf : obj fresh = none) :
  ∃ g' v w', (Instr.buildSlice t n (ps.map fun p => (p.1, act.eval p.2)).toArray).run P w = .ok v w' ∧ Post tab g obj w g' (updO obj fresh (some (.tok 0 (P.cellsOf e)))) w' ∧
   VRel tab g' (updO obj fresh (some (.tok 0 (P.cellsOf e)))) w' (.own fresh 0 (P.cellsOf e) xs) v := by
 obtain ⟨i, z0, hi, hz0, hcel, hzc, hzlen, _⟩ := zeroOf_rel (tab := tab) hz g obj w
 have hzd' : DList tab g.im w zd z0.cells.toList := toDs_rel hzd hzc.toV
 have hzs : z0.cells.size = P.cellsOf e := by have := hzd'.length; simp at this; omega
 obtain ⟨k1, k2⟩ := sliceParts_rel hp hT
 rw [zipI_map, zipI_zip] at h
 have hrep : ∀ (n : Nat), (∀ r ∈ List.replicate n zd, r.length = P.cellsOf e) ∧ DList tab g.im w (List.replicate n zd).flatten (List.replicate n z0.cells.toList).flatten := by
  intro n
  refine ⟨fun r hr => by rw [(List.mem_replicate.1 hr).2]; exact hzl, ?_⟩
  induction n with
  | zero => simp [DList]
  | succ n ih => simp only [List.replicate_succ, List.flatten_cons]; exact hzd'.append ih
 have hinit := zero_rows z0.cells (by omega) n
 rw [hzs] at hinit
 obtain ⟨cells, m1, m2, m3, m4⟩ := fillR_rel (tab := tab) (g := g) (obj := obj) (w := w) (sz := P.cellsOf e) (is := as.map (·.1)) (vs := as.map fun p => evA get p.2) (us := ps.map fun p => act.eval p.2) (xs := List.replicate n zd) (xs' := xs)
  (cells := (Array.range (n * P.cellsOf e)).map fun i => z0.cells[i % P.cellsOf e]!) (by simp) k2 (hrep n).1 (by rw [hinit]; exact (hrep n).2) h
 rw [← k1, zip_fst_map] at m1
 have hxl : xs.length = n := by rw [m3]; simp
 obtain ⟨g', h1, h2⟩ := app_new (dr := w.drawn) (e := e) (id := fresh) (ver := 0) (cap := n) (rest := []) hH (.inl hf) m4 m2 (by omega) (by simp [hxl])
 have hwd : wd w w.drawn = w := rfl
 rw [hwd, List.append_nil] at h1 h2
 refine ⟨g', _, _, ?_, h1, h2⟩
 have hlim : ¬ (16777216 < n * P.cellsOf e) := by omega
 have hzv : (zeroValue e).run P w = .ok z0 w := by simp [zeroValue, typeInfo, hi, hz0]
 have fin : ∀ zz : Array Value, ((Array.range (n * P.cellsOf e)).map fun i => zz[i % zz.size]!) = ((Array.range (n * P.cellsOf e)).map fun i => z0.cells[i % P.cellsOf e]!) →
   (match Instr.fill (fun i => some (i * P.cellsOf e, P.cellsOf e)) ((Array.range (n * P.cellsOf e)).map fun i => zz[i % zz.size]!) (ps.map fun p => (p.1, act.eval p.2)) with
    | some cells => do
     let a ← newRow e cells
     pure (Value.slice (some a) n n)
    | _ => stuck "buildSlice: a part of the wrong size" : Sem Value).run P w = .ok (.slice (some ⟨w.heap.size, 0, none⟩) n n) (w.alloc (.cells cells.toList.toArray e)) := by
  intro zz hzz
  rw [hzz, m1]
  rfl
 unfold Instr.buildSlice
 simp only [Sem.run_bind, run_underlying hu, run_size hc, Result.andThen_ok, Nat.reducePow, gt_iff_lt, if_neg hlim, Sem.run_pure, hxl]
 by_cases h0 : n * P.cellsOf e = 0
 ·rw [if_pos h0]
  exact fin #[] (by rw [h0]; simp)
 ·rw [if_neg h0]
  simp only [Sem.run_bind, hzv, Result.andThen_ok, Sem.run_pure]
  exact fin z0.cells (by rw [hzs])
end
open Go
open Go.RowKit (Below)
def updL (obj : Nat → Option Obj) : List Nat → List (Option Obj) → Nat → Option Obj
 | i :: is, o :: os => updL (updO obj i o) is os
 | _, _ => obj
def resO (obj : Nat → Option Obj) (wr : Bool) (ids : List Nat) (r : Res) (fresh : Nat) : Nat → Option Obj :=
 let f := if wr then updL obj ids r.os else obj
 match r.nw with
 | some x => updO f fresh (some x)
 | none => f
def objOf (h : List (Option Obj)) : Nat → Option Obj := fun i => (h[i]?).join
section
variable (P : Program) (tab : Tab)
def FnOk (fid : Nat) (f : List V → List (Option Obj) → Option (V × List (Option Obj))) : Prop := ∀ args h r h', f args h = some (r, h') → ∀ (g : Gh) (w : World) (vs : List Value),
 HRel tab g (objOf h) w → VList tab g (objOf h) w args vs →
 Calls P fid vs.toArray w fun e w' => ∃ v g', e = .returned v ∧ HRel tab g' (objOf h') w' ∧ Evo g (objOf h) w g' (objOf h') w' ∧ VRel tab g' (objOf h') w' r v
def FnC (C : List Value → World → (Ending → World → Prop) → Prop) (f : List V → List (Option Obj) → Option (V × List (Option Obj))) : Prop := ∀ args h r h', f args h = some (r, h') → ∀ (g : Gh) (w : World) (vs : List Value),
 HRel tab g (objOf h) w → VList tab g (objOf h) w args vs →
 C vs w fun e w' => ∃ v g', e = .returned v ∧ HRel tab g' (objOf h') w' ∧ Evo g (objOf h) w g' (objOf h') w' ∧ VRel tab g' (objOf h') w' r v
abbrev fen (r : Option Nat) : Fence := { Fence.wide with round := r }
def RndC (P : Program) (vs : List Value) (w : World) (R : Ending → World → Prop) : Prop :=
 ∃ l xs rec, vs = .func (.yield l) #[] #[] :: xs ∧ w.heap[l]? = some (.loop rec) ∧ xs.toArray.size = rec.params.size ∧
  ∀ rd m, RoundIn (fen rd) m P l rec.fn ((rec.params.zip xs.toArray).foldl (fun tmps (t, a) => tmps.setIfInBounds t a) rec.tmps) rec.assign rec.body w R
theorem RndC.mono {P : Program} (vs : List Value) (w : World) (R R' : Ending → World → Prop) (h : RndC P vs w R) (k : ∀ e w', R e w' → R' e w') : RndC P vs w R' := by
 obtain ⟨l, xs, rec, h1, h2, h3, h4⟩ := h
 exact ⟨l, xs, rec, h1, h2, h3, fun rd m => (h4 rd m).mono k⟩
structure CallOk (call : CallF) : Prop where
 fn : ∀ fid key, keyOf tab fid = some key → FnOk P tab fid (call key)
 rnd : ∀ key R, rndOf tab key = some R → FnC tab (RndC P) (call key)
def BodyOk : Prop := ∀ f key, keyOf tab f = some key → ∀ args w, (callFunc f args).run P w = .ok (.enter f args) w
def OkOp (o : Oper) (cop : Cop) : Prop :=
 ∀ (nt : Nat) (g : Gh) (get : Nat → V) (obj : Nat → Option Obj) (a : Act) (w : World), Rel tab nt g get obj a w → ∀ (fresh : Nat) (r : Res), obj fresh = none →
  act cop (cop.args.map (evA get)) ((cop.ids (cop.args.map (evA get))).map obj) fresh = some r →
  ∀ (K : Act → World → Prop) (Q : Exit → Act → World → Prop),
   (∀ g' v w', Post tab g obj w g' (resO obj cop.wr (cop.ids (cop.args.map (evA get))) r fresh) w' → VRel tab g' (resO obj cop.wr (cop.ids (cop.args.map (evA get))) r fresh) w' r.v v → K (a.put o.dst v) w') →
   o.wp P a w K Q
end
section
variable {P : Program} {tab : Tab} {o : Oper}
theorem wp_value {a : Act} {w w' : World} {v : Value} {K : Act → World → Prop} {Q : Exit → Act → World → Prop} (h : (execOp a.eval o).run P w = .ok (.value v) w') (hk : K (a.put o.dst v) w') : o.wp P a w K Q := by
 unfold Oper.wp; rw [h]; exact hk
theorem wp_skip' {a : Act} {w w' : World} {K : Act → World → Prop} {Q : Exit → Act → World → Prop} (h : (execOp a.eval o).run P w = .ok .skip w') (hk : K (a.put o.dst undef) w') : o.wp P a w K Q := by
 unfold Oper.wp; rw [h]; exact hk
theorem undef_rel {g : Gh} {obj : Nat → Option Obj} {w : World} : VRel tab g obj w .undef undef := by
 simp only [V.undef, VRel]
 exact ⟨[], rfl, by simp only [VList]⟩
theorem ok_mv {x : Operand} {cop : Cop} (ho : o.op = .move x ∨ o.op = .assign x) (hc : un1 P tab (some o.type) x .mv = some cop) : OkOp P tab o cop := by
 obtain ⟨a', ha, rfl⟩ := un1_rel hc
 intro nt g get obj a w hR fresh r hf h K Q hK
 simp only [Cop.args, Qb, Qc, act, Qa] at h
 subst h
 have hx := compA_rel (w := w) ha hR.tmp
 refine wp_value (v := a.eval x) (w' := w) ?_ (hK g _ _ (.refl hR.heap) hx)
 rcases ho with ho | ho <;> simp [execOp, ho]
theorem ok_pick {c x y : Operand} {c' x' y' : A} (ho : o.op = .pick c x y) {t u v : Option TypeId} (h1 : compA P tab t c = some c') (h2 : compA P tab u x = some x') (h3 : compA P tab v y = some y') : OkOp P tab o (.pick c' x' y') := by
 intro nt g get obj a w hR fresh r hf h K Q hK
 have e1 := compA_rel (w := w) h1 hR.tmp
 have e2 := compA_rel (w := w) h2 hR.tmp
 have e3 := compA_rel (w := w) h3 hR.tmp
 simp only [Cop.args, Qb, Qc, act] at h
 split at h
 ·rename_i b p q heq
  injection heq with q1 q2
  injection q2 with q2 q3
  injection q3 with q3 _
  simp only [Qa] at h
  subst h
  rw [q1] at e1
  simp only [VRel, DRel] at e1
  refine wp_value (v := if b then a.eval x else a.eval y) (w' := w) ?_ (hK g _ _ (.refl hR.heap) ?_)
  ·cases b <;> simp [execOp, ho, e1, asBool]
  ·cases b
   ·rw [← q3]; exact e3
   ·rw [← q2]; exact e2
 ·cases h
theorem ok_zero {t : TypeId} {z : V} (ho : o.op = .alloc t) (hz : zeroOf P t = some z) : OkOp P tab o (.zero z) := by
 intro nt g get obj a w hR fresh r hf h K Q hK
 simp only [act, Qa] at h
 subst h
 obtain ⟨i, z0, hi, hz0, hcel, hzc, _, _⟩ := zeroOf_rel (tab := tab) hz g obj w
 obtain ⟨g', h1, h2⟩ := post_box hR.heap hf t hzc
 refine wp_value ?_ (hK g' _ _ h1 h2)
 simp [execOp, ho, Instr.alloc, zeroValue, typeInfo, hi, hz0, newVar, newRow]
theorem ok_box {t : TypeId} {x : Operand} {cop : Cop} (ho : o.op = .box t x) (hc : un1 P tab (some t) x .box = some cop) : OkOp P tab o cop := by
 obtain ⟨a', ha, rfl⟩ := un1_rel hc
 intro nt g get obj a w hR fresh r hf h K Q hK
 have hx := compA_rel (w := w) ha hR.tmp
 simp only [Cop.args, Qb, Qc, act] at h
 split at h
 ·rename_i c hcel
  simp only [Qa] at h
  subst h
  obtain ⟨g', h1, h2⟩ := post_box hR.heap hf t (cel_rel hcel hx)
  refine wp_value ?_ (hK g' _ _ h1 h2)
  simp [execOp, ho, Instr.box, newVar, newRow]
 ·cases h
theorem parts_map (ps : Array (Nat × Operand)) (a : Act) : (ps.map fun (i, x) => (i, a.eval x)) = (ps.toList.map fun p => (p.1, a.eval p.2)).toArray := by
 apply Array.ext'
 simp
theorem ok_build_struct {t : TypeId} {ps : Array (Nat × Operand)} {fs : Array Field} {z : List V} {as : List (Nat × Nat × A)} (ho : o.op = .build t ps) (hu : P.underlying t = some (.struct fs)) (hall : (fs.toList.all fun f => (P.info? f.type).isSome) = true)
  (hz : zeroOf P t = some (.agg z)) (hp : structParts P tab fs ps.toList = some as) : OkOp P tab o (.build z as) := by
 intro nt g get obj a w hR fresh r hf h K Q hK
 simp only [Cop.args, act] at h
 split at h
 ·rename_i cs hcs
  simp only [Qa] at h
  subst h
  obtain ⟨cells, m1, m2⟩ := build_struct hu hall hz hp hR.tmp hcs
  refine wp_value (v := .agg cells) (w' := w) ?_ (hK g _ _ (.refl hR.heap) ?_)
  ·have := run_build w t (ps.toList.map fun p => (p.1, a.eval p.2)).toArray cells (by simpa using m1)
   simp only [execOp, ho, parts_map, Sem.run_bind, this, Result.andThen_ok, Sem.run_pure]
  ·simp only [VRel]; exact ⟨cells.toList, by simp, m2⟩
 ·cases h
theorem ok_build_array {t e : TypeId} {n : Nat} {ps : Array (Nat × Operand)} {z : List V} {as : List (Nat × Nat × A)} (ho : o.op = .build t ps) (hu : P.underlying t = some (.array n e)) (hall : (P.info? e).isSome = true)
  (hz : zeroOf P t = some (.agg z)) (hp : arrayParts P tab e ps.toList = some as) : OkOp P tab o (.build z as) := by
 intro nt g get obj a w hR fresh r hf h K Q hK
 simp only [Cop.args, act] at h
 split at h
 ·rename_i cs hcs
  simp only [Qa] at h
  subst h
  obtain ⟨cells, m1, m2⟩ := build_array hu hall hz hp hR.tmp hcs
  refine wp_value (v := .agg cells) (w' := w) ?_ (hK g _ _ (.refl hR.heap) ?_)
  ·have := run_build w t (ps.toList.map fun p => (p.1, a.eval p.2)).toArray cells (by simpa using m1)
   simp only [execOp, ho, parts_map, Sem.run_bind, this, Result.andThen_ok, Sem.run_pure]
  ·simp only [VRel]; exact ⟨cells.toList, by simp, m2⟩
 ·cases h
theorem ok_bsl {t e : TypeId} {n : Nat} {ps : Array (Nat × Operand)} {z : V} {zd : List D} {as : List (Nat × A)} (ho : o.op = .buildSlice t n ps) (hu : P.underlying t = some (.slice e)) (hz : zeroOf P e = some z) (hzd : V.toDs z.cells = some zd)
  (hp : sliceParts P tab e ps.toList = some as) (hc : P.cellsOf e ≠ 0) (hl : zd.length = P.cellsOf e) (hn : n * P.cellsOf e ≤ 16777216) : OkOp P tab o (.bsl (P.cellsOf e) n zd as) := by
 intro nt g get obj a w hR fresh r hf h K Q hK
 simp only [Cop.args, act] at h
 split at h
 ·rename_i xs hxs
  simp only [Qa] at h
  subst h
  obtain ⟨g', v, w', h1, h2, h3⟩ := bsl_sound hR.heap hu hz hzd hp hc hl hn hR.tmp hxs hf
  refine wp_value ?_ (hK g' _ _ h2 h3)
  simp only [execOp, ho, parts_map, Sem.run_bind, h1, Result.andThen_ok, Sem.run_pure]
 ·cases h
theorem ok_ld {t : TypeId} {x : Operand} {cop : Cop} (ho : o.op = .load t x) (hv : okVar P t) (hc : un1 P tab none x (.ld (isAggT P t) (P.cellsOf t)) = some cop) : OkOp P tab o cop := by
 obtain ⟨a', ha, rfl⟩ := un1_rel hc
 intro nt g get obj a w hR fresh r hf h K Q hK
 have hx := compA_rel (w := w) ha hR.tmp
 simp only [Cop.args, Qb, Qc, act, optV] at h
 split at h
 ·rename_i v hl
  simp only [Qa] at h
  subst h
  obtain ⟨b, q, us, e1, e2, e3, e4⟩ := ld_sound hR.heap hl hx
  refine wp_value ?_ (hK g _ _ (.refl hR.heap) e4)
  simp only [execOp, ho, e1, Instr.loadAt, Instr.sureAddr, Sem.run_bind, Sem.run_pure, Result.andThen_ok, run_loadVar hv e2 e3]
 ·cases h
theorem st_sound {g : Gh} {obj : Nat → Option Obj} {w : World} (hH : HRel tab g obj w) {n : Nat} {t : TypeId} (ht : P.cellsOf t = n) (hn : n ≠ 0) {a v : A} {x y : V} {os : List (Option Obj)} (h : actSt n [x, y] ((Cop.ids (.st n a v) [x, y]).map obj) = some os)
  {xv yv : Value} (hx : VRel tab g obj w x xv) (hy : VRel tab g obj w y yv) :
  ∃ g' w', (Instr.storeAt t xv yv).run P w = .ok () w' ∧ Post tab g obj w g' (updL obj (Cop.ids (.st n a v) [x, y]) os) w' := by
 cases x with
 | ptr id off =>
  simp only [Cop.ids, Qb, Qc] at h
  simp only [VRel] at hx
  obtain ⟨_, rfl⟩ := hx
  cases ho : obj id with
  | none => simp [actSt, ho] at h
  | some ob =>
   cases ob with
   | box cs =>
    simp only [actSt, ho] at h
    split at h
    ·rename_i c hcel
     split at h
     ·rename_i hcn
      split at h
      ·rename_i cs' hov
       simp only [Qa] at h
       subst h
       have hc := cel_rel hcel hy
       obtain ⟨k1, k2, g', k3⟩ := st_box hH ho hov hc
       refine ⟨g', _, ?_, k3⟩
       simp only [Instr.storeAt, Instr.sureAddr, Sem.run_bind, Sem.run_pure, Result.andThen_ok]
       exact run_storeVar (by omega) (by rw [hc.length]; omega) k1 k2 hc.ones
      ·cases h
     ·cases h
    ·cases h
   | _ => simp [actSt, ho] at h
 | pm id ver idx off =>
  simp only [Cop.ids, Qb, Qc] at h
  simp only [VRel] at hx
  obtain ⟨_, ver', sz, xs, ho, hle, hx⟩ := hx
  simp only [actSt, ho] at h
  split at h
  ·rename_i he
   have hx := hx he
   subst hx
   split at h
   ·rename_i row ds hrow hcel
    have hcn : ds.length = n := by
     by_cases e : ds.length = n
     ·exact e
     ·rw [if_neg e] at h; cases h
    rw [if_pos hcn] at h
    split at h
    ·rename_i row' hov
     simp only [Qa] at h
     subst h
     obtain ⟨hle2, rfl⟩ := over_some hov
     have hd := cel_rel hcel hy
     have hul := hd.length
     obtain ⟨k1, k2, k4, k5⟩ := hH.ob id _ ho
     have hrl : row.length = sz := k1 row (List.mem_of_getElem? hrow)
     have hi : idx < xs.length := by
      rcases Qn idx xs.length with h | h
      ·exact h
      ·rw [Qe h] at hrow; cases hrow
     have hmul : (idx + 1) * sz ≤ xs.length * sz := Nat.mul_le_mul_right _ hi
     rw [Nat.add_mul] at hmul
     have hown : ∀ q, q < (g.at_ id).cnt → owns g obj id (g.at_ id).blk ((g.at_ id).lo + q) := fun q hq => by
      unfold owns; rw [ho]; exact ⟨rfl, by omega, by omega⟩
     have hcell : ∀ j, j < yv.cells.toList.length → (w.cell? (cellAt (g.at_ id).blk ((g.at_ id).lo + idx * sz + off + j))).isSome = true := fun j hj => by
      have := k4 (idx * sz + off + j) (by omega)
      rwa [show (g.at_ id).lo + (idx * sz + off + j) = (g.at_ id).lo + idx * sz + off + j by omega] at this
     have hfr : ∀ j, j < yv.cells.toList.length → w.frozen? (cellAt (g.at_ id).blk ((g.at_ id).lo + idx * sz + off + j)) = false := fun j hj => by
      have := hH.frz id _ _ (hown (idx * sz + off + j) (by omega)) (fun kvs => by rw [ho]; simp) ((g.at_ id).lo + (idx * sz + off + j))
      rwa [show (g.at_ id).lo + (idx * sz + off + j) = (g.at_ id).lo + idx * sz + off + j by omega] at this
     obtain ⟨e1, e2, e3, e4⟩ := setCells_os (g.at_ id).blk yv.cells.toList ((g.at_ id).lo + idx * sz + off) w
     refine ⟨⟨updP g.at_ id (g.at_ id), g.im⟩, w.setCells (g.at_ id).blk ((g.at_ id).lo + idx * sz + off) yv.cells.toList, ?_, ?_⟩
     ·simp only [Instr.storeAt, Instr.sureAddr, Sem.run_bind, Sem.run_pure, Result.andThen_ok]
      exact run_storeVar (by omega) (by omega) hcell hfr hd.ones
     ·have howns : ∀ b o, owns ⟨updP g.at_ id (g.at_ id), g.im⟩ (updO obj id (some (.arr ver' sz (xs.set idx (row.take off ++ ds ++ row.drop (off + ds.length)))))) id b o → owns g obj id b o := fun b o h => by
       unfold owns at *
       simp only [updO_same, updP_same] at h
       rw [ho]; exact h
      obtain ⟨h1, h2, h3⟩ := step1 (w' := w.setCells (g.at_ id).blk ((g.at_ id).lo + idx * sz + off) yv.cells.toList) hH id (.arr ver' sz (xs.set idx (row.take off ++ ds ++ row.drop (off + ds.length)))) (g.at_ id) g.im e1 e2 e3 (by omega)
       (fun b hb => (blockEvo_setCells (g.at_ id).blk b yv.cells.toList ((g.at_ id).lo + idx * sz + off) w).mono fun q ⟨m1, m2, m3⟩ => by
        subst m1
        have := hown (q - (g.at_ id).lo) (by omega)
        rwa [show (g.at_ id).lo + (q - (g.at_ id).lo) = q by omega] at this)
       (fun b o h => h) (fun b o h => .inl h)
       (fun b o h => ⟨.inl (howns b o h), hH.imm id b o (howns b o h)⟩)
       (fun b o h _ q => by rw [World.frozen?_setCells]; exact hH.frz id b o (howns b o h) (fun kvs => by rw [ho]; simp) q)
       (by
        intro j
        by_cases e : j = id
        ·subst e; rw [ho]
         exact ⟨_, _, updO_same _ _ _, Nat.le_refl _, fun _ => ⟨by simp, updP_same _ _ _⟩⟩
        ·have := OEvo.refl g obj j
         rw [updO_ne _ _ e, show (⟨updP g.at_ id (g.at_ id), g.im⟩ : Gh).at_ j = g.at_ j from updP_ne _ _ e]
         exact this)
       (fun hv => by
        have hrow' : (row.take off ++ ds ++ row.drop (off + ds.length)).length = sz := by simp; omega
        refine ⟨fun r hr => ?_, by simpa using k2, fun q hq => ?_, fun i r q d hi' hq => ?_⟩
        ·rcases List.mem_or_eq_of_mem_set hr with h | h
         ·exact k1 r h
         ·rw [h]; exact hrow'
        ·exact (blockEvo_setCells (g.at_ id).blk (g.at_ id).blk yv.cells.toList ((g.at_ id).lo + idx * sz + off) w).isSome (k4 q hq)
        ·by_cases hii : i = idx
         ·subst hii
          rw [List.getElem?_set_self hi] at hi'
          cases hi'
          by_cases hin : off ≤ q ∧ q < off + ds.length
          ·obtain ⟨m, rfl⟩ : ∃ m, q = off + m := ⟨q - off, by omega⟩
           rw [List.append_assoc, List.getElem?_append_right (by simp; omega), List.getElem?_append_left (by simp; omega)] at hq
           have hto : (row.take off).length = off := by simp; omega
           rw [hto, Nat.add_sub_cancel_left] at hq
           obtain ⟨u, hu, hdu, h1u⟩ := hd.get hq
           refine ⟨u, ?_, hv d u hdu, h1u⟩
           have := holds_setCells (w := w) hcell m u hu
           rwa [show (g.at_ id).lo + i * sz + off + m = (g.at_ id).lo + i * sz + (off + m) by omega] at this
          ·have hq' : row[q]? = some d := by
            rcases Qn q off with h | h
            ·rw [List.append_assoc, List.getElem?_append_left (by simp; omega), List.getElem?_take, if_pos h] at hq; exact hq
            ·have hto : (row.take off ++ ds).length = off + ds.length := by simp; omega
             rw [List.getElem?_append_right (by omega), hto, List.getElem?_drop, show off + ds.length + (q - (off + ds.length)) = q by omega] at hq; exact hq
           obtain ⟨u, hu, hdu, h1u⟩ := k5 i row q d hrow hq'
           refine ⟨u, ?_, hv d u hdu, h1u⟩
           rw [World.cell?_setCells_out _ _ _ _ _ (fun _ _ => by show (g.at_ id).lo + i * sz + q < _ ∨ _ ≤ (g.at_ id).lo + i * sz + q; omega)]
           exact hu
         ·rw [List.getElem?_set_ne (Ne.symm hii)] at hi'
          obtain ⟨u, hu, hdu, h1u⟩ := k5 i r q d hi' hq
          refine ⟨u, ?_, hv d u hdu, h1u⟩
          have hr : r.length = sz := k1 r (List.mem_of_getElem? hi')
          have hq' : q < r.length := by
           rcases Qn q r.length with h | h
           ·exact h
           ·rw [Qe h] at hq; cases hq
          rw [World.cell?_setCells_out _ _ _ _ _ (fun _ _ => by
           show (g.at_ id).lo + i * sz + q < (g.at_ id).lo + idx * sz + off ∨ (g.at_ id).lo + idx * sz + off + yv.cells.toList.length ≤ (g.at_ id).lo + i * sz + q
           rcases Nat.lt_or_gt_of_ne hii with h | h
           ·have : (i + 1) * sz ≤ idx * sz := Nat.mul_le_mul_right _ h
            rw [Nat.add_mul] at this; omega
           ·have : (idx + 1) * sz ≤ i * sz := Nat.mul_le_mul_right _ h
            rw [Nat.add_mul] at this; omega)]
          exact hu)
      exact ⟨h1, h2, h3⟩
    ·cases h
   ·cases h
  ·cases h
 | _ => simp [Cop.ids, actSt] at h
theorem ok_st {t : TypeId} {x y : Operand} {cop : Cop} (ho : o.op = .store t x y) (hn : P.cellsOf t ≠ 0) (hc : bi2 P tab none (some t) x y (.st (P.cellsOf t)) = some cop) : OkOp P tab o cop := by
 obtain ⟨a', b', ha, hb, rfl⟩ := bi2_rel hc
 intro nt g get obj a w hR fresh r hf h K Q hK
 have hx := compA_rel (w := w) ha hR.tmp
 have hy := compA_rel (w := w) hb hR.tmp
 simp only [Cop.args, Qb, Qc, act] at h
 split at h
 ·rename_i os hl
  simp only [Qa] at h
  subst h
  obtain ⟨g', w', e1, e2⟩ := st_sound hR.heap rfl hn hl hx hy
  refine wp_skip' (w' := w') ?_ (hK g' undef w' e2 undef_rel)
  simp only [execOp, ho, e1, Sem.run_bind, Result.andThen_ok, Sem.run_pure]
 ·cases h
theorem ok_nilc {x : Operand} {cop : Cop} (ho : o.op = .nilCheck x) (hc : un1 P tab (some o.type) x .nilc = some cop) : OkOp P tab o cop := by
 obtain ⟨a', ha, rfl⟩ := un1_rel hc
 intro nt g get obj a w hR fresh r hf h K Q hK
 have hx := compA_rel (w := w) ha hR.tmp
 simp only [Cop.args, Qb, Qc, act] at h
 have key : ∀ v, VRel tab g obj w (evA get a') v → (∃ ad, v = .pointer (some ad)) ∨ (∃ f fs cs, v = .func f fs cs ∧ ((∃ i, f = .func i) ∨ ∃ l, f = .yield l)) → a.eval x = v → (execOp a.eval o).run P w = .ok (.value v) w := by
  rintro v _ (⟨ad, rfl⟩ | ⟨f, fs, cs, rfl, ⟨i, rfl⟩ | ⟨l, rfl⟩⟩) e <;> simp [execOp, ho, e]
 split at h
 ·rename_i id off heq
  injection heq with heq _
  simp only [Qa] at h; subst h
  rw [heq] at hx
  have hx' := hx
  simp only [VRel] at hx'
  exact wp_value (key _ (by rw [heq]; exact hx) (.inl ⟨_, hx'.2⟩) rfl) (hK g _ _ (.refl hR.heap) hx)
 ·rename_i id ver idx off heq
  injection heq with heq _
  simp only [Qa] at h; subst h
  rw [heq] at hx
  have hx' := hx
  simp only [VRel] at hx'
  obtain ⟨⟨ad, e⟩, _⟩ := hx'
  exact wp_value (key _ (by rw [heq]; exact hx) (.inl ⟨_, e⟩) rfl) (hK g _ _ (.refl hR.heap) hx)
 ·rename_i ds off heq
  injection heq with heq _
  simp only [Qa] at h; subst h
  rw [heq] at hx
  have hx' := hx
  simp only [VRel, DRel] at hx'
  obtain ⟨b, q, e, _⟩ := hx'
  exact wp_value (key _ (by rw [heq]; exact hx) (.inl ⟨_, e⟩) rfl) (hK g _ _ (.refl hR.heap) hx)
 ·rename_i k' a' c' heq
  injection heq with heq _
  simp only [Qa] at h; subst h
  rw [heq] at hx
  have hx' := hx
  simp only [VRel, DRel] at hx'
  obtain ⟨fid, fs, cs, _, e, _⟩ := hx'
  exact wp_value (key _ (by rw [heq]; exact hx) (.inr ⟨_, _, _, e, .inl ⟨_, rfl⟩⟩) rfl) (hK g _ _ (.refl hR.heap) hx)
 ·rename_i k' a' c' heq
  injection heq with heq _
  simp only [Qa] at h; subst h
  rw [heq] at hx
  have hx' := hx
  simp only [VRel] at hx'
  have e : ∃ f fs cs, a.eval x = .func f fs cs ∧ ((∃ i, f = .func i) ∨ ∃ l, f = .yield l) := by
   rcases hx' with ⟨fid, fs, cs, _, e, _⟩ | ⟨_, _, _, e, _⟩
   ·exact ⟨_, _, _, e, .inl ⟨_, rfl⟩⟩
   ·exact ⟨_, _, _, e, .inr ⟨_, rfl⟩⟩
  exact wp_value (key _ (by rw [heq]; exact hx) (.inr e) rfl) (hK g _ _ (.refl hR.heap) hx)
 ·cases h
theorem eqGuard_ok {op : BinOp} {t : TypeId} {x y : Operand} {u v : Value} (w : World) (h1 : u ≠ .nilIface) (h2 : ∀ c, u ≠ .agg c) : (eqGuard op t x y u v).run P w = .ok () w := by
 unfold eqGuard
 cases op <;> simp <;> (cases u <;> first | rfl | exact absurd rfl h1 | exact absurd rfl (h2 _))
def dVal : D → Value
 | .b x => .bool x
 | .i k n => .int k n
 | _ => undef
theorem run_binInt {op : BinOp} {k : IntKind} {x y : Int} {d : D} (hs : isShift op = false) (h : binInt op k x y = some d) {g : Gh} {obj : Nat → Option Obj} (w : World) (t : TypeId) :
  (Go.binOp op t (.int k x) (.int k y)).run P w = .ok (dVal d) w ∧ VRel tab g obj w (.d d) (dVal d) := by
 cases op <;> simp [binInt, isShift] at h hs <;> (first | (obtain ⟨h0, rfl⟩ := h) | subst h) <;>
  refine ⟨?_, by simp only [VRel, DRel, dVal]⟩ <;> simp [Go.binOp, Op.intArith, Op.intDiv, Op.intBits, Op.intCmp, dVal, *]
theorem run_shiftInt {op : BinOp} {k k' : IntKind} {x y : Int} {d : D} (hs : isShift op = true) (h : shiftInt op k x y = some d) {g : Gh} {obj : Nat → Option Obj} (w : World) (t : TypeId) :
  (Go.binOp op t (.int k x) (.int k' y)).run P w = .ok (dVal d) w ∧ VRel tab g obj w (.d d) (dVal d) := by
 unfold shiftInt at h
 split at h
 ·cases h
 ·rename_i hy
  cases op <;> simp [isShift] at h hs <;> subst h <;> refine ⟨?_, by simp only [VRel, DRel, dVal]⟩ <;> simp [Go.binOp, Op.shift, hy, dVal]
theorem bytesLess_eq : ∀ x y, Op.bytesLess x y = bytesLess x y
 | x, [] => by cases x <;> rfl
 | [], _ :: _ => rfl
 | a :: x, b :: y => by simp only [Op.bytesLess, bytesLess, bytesLess_eq x y]
theorem run_binStr {op : BinOp} {x y : List UInt8} {d : D} (h : binStr op x y = some d) {g : Gh} {obj : Nat → Option Obj} (w : World) (t : TypeId) {s s' : ByteArray} (hs : s.data.toList = x) (hs' : s'.data.toList = y) :
  ∃ v, (Go.binOp op t (.string s) (.string s')).run P w = .ok v w ∧ VRel tab g obj w (.d d) v := by
 have e1 : s.toList = x := by rw [ByteArray.toList_eq, hs]
 have e2 : s'.toList = y := by rw [ByteArray.toList_eq, hs']
 have l1 : s.size = x.length := by rw [← hs, Array.length_toList]; rfl
 have l2 : s'.size = y.length := by rw [← hs', Array.length_toList]; rfl
 cases op <;> simp [binStr] at h
 case add =>
  obtain ⟨h0, rfl⟩ := h
  refine ⟨.string (s ++ s'), ?_, ?_⟩
  ·exact run_string_add_sum w s s' (by omega)
  ·simp only [VRel, DRel]
   refine ⟨_, rfl, ?_⟩
   rw [← hs, ← hs']
   simp [ByteArray.data_append]
 all_goals
  refine ⟨dVal d, ?_, ?_⟩ <;> subst h
  ·simp [Go.binOp, Op.stringOp, e1, e2, bytesLess_eq, dVal]
  ·simp only [VRel, DRel, dVal]
theorem run_binOp {op : BinOp} {x y : V} {d : D} (h : binOp op x y = some d) {g : Gh} {obj : Nat → Option Obj} {w : World} {t : TypeId} (ht : isK P t = true) {xv yv : Value} (hx : VRel tab g obj w x xv) (hy : VRel tab g obj w y yv) (p q : Operand) :
  ∃ v, (eqGuard op t p q xv yv).run P w = .ok () w ∧ (Go.binOp op t xv yv).run P w = .ok v w ∧ VRel tab g obj w (.d d) v := by
 unfold binOp at h
 split at h
 ·rename_i k a k' b
  simp only [VRel, DRel] at hx hy
  subst hx; subst hy
  split at h
  ·rename_i hs
   obtain ⟨h1, h2⟩ := run_shiftInt (P := P) (tab := tab) (k' := k') (g := g) (obj := obj) hs h w t
   exact ⟨_, eqGuard_ok w (by simp) (by simp), h1, h2⟩
  ·split at h
   ·rename_i hs hk
    subst hk
    obtain ⟨h1, h2⟩ := run_binInt (P := P) (tab := tab) (g := g) (obj := obj) (by simpa using hs) h w t
    exact ⟨_, eqGuard_ok w (by simp) (by simp), h1, h2⟩
   ·cases h
 ·rename_i a b
  simp only [VRel, DRel] at hx hy
  obtain ⟨s, rfl, hs⟩ := hx
  obtain ⟨s', rfl, hs'⟩ := hy
  obtain ⟨v, h1, h2⟩ := run_binStr (P := P) (tab := tab) (g := g) (obj := obj) h w t hs hs'
  exact ⟨v, eqGuard_ok w (by simp) (by simp), h1, h2⟩
 ·cases h
theorem ok_eqb {op : BinOp} {t u : TypeId} {x y : Operand} {cop : Cop} (ho : o.op = .binOp op t x y u) (ht : P.underlying t = some .bool) (hop : isEqOp op = true) (hc : bi2 P tab (some t) (some u) x y (.eqb (op == .neq)) = some cop) : OkOp P tab o cop := by
 obtain ⟨a', b', ha, hb, rfl⟩ := bi2_rel hc
 intro nt g get obj a w hR fresh r hf h K Q hK
 have hx := compA_rel (w := w) ha hR.tmp
 have hy := compA_rel (w := w) hb hR.tmp
 simp only [Cop.args, Qb, Qc, act] at h
 split at h
 ·rename_i p q heq
  injection heq with q1 q2
  injection q2 with q2 _
  rw [q1] at hx
  rw [q2] at hy
  simp only [Qa] at h
  subst h
  simp only [VRel, DRel] at hx hy
  have he0 : ∀ d, (Op.equalIn (d + 1) t (.bool p) (.bool q)).run P w = .ok (p == q) w := fun d => by simp [Op.equalIn, run_underlying ht]
  have he : (Op.equal t (.bool p) (.bool q)).run P w = .ok (p == q) w := he0 9999
  have hg := eqGuard_ok (P := P) (op := op) (t := t) (x := x) (y := y) (u := .bool p) (v := .bool q) w (by simp) (by simp)
  refine wp_value (v := .bool (if op == .neq then p != q else p == q)) (w' := w) ?_ (hK g _ _ (.refl hR.heap) (by simp only [VRel, DRel]))
  simp only [execOp, ho, hx, hy, hg, Sem.run_bind, Result.andThen_ok]
  cases op <;> simp [isEqOp] at hop <;> simp [Go.binOp, he] <;> (cases p <;> cases q <;> rfl)
 ·cases h
theorem ok_bin {op : BinOp} {t u : TypeId} {x y : Operand} {cop : Cop} (ho : o.op = .binOp op t x y u) (ht : isK P t = true) (hc : bi2 P tab (some t) (some u) x y (.bin op) = some cop) : OkOp P tab o cop := by
 obtain ⟨a', b', ha, hb, rfl⟩ := bi2_rel hc
 intro nt g get obj a w hR fresh r hf h K Q hK
 have hx := compA_rel (w := w) ha hR.tmp
 have hy := compA_rel (w := w) hb hR.tmp
 simp only [Cop.args, Qb, Qc, act, optD] at h
 split at h
 ·rename_i d hl
  simp only [Qa] at h
  subst h
  obtain ⟨v, e1, e2, e3⟩ := run_binOp (P := P) hl ht hx hy x y
  refine wp_value ?_ (hK g _ _ (.refl hR.heap) e3)
  simp only [execOp, ho, e1, e2, Sem.run_bind, Result.andThen_ok, Sem.run_pure]
 ·cases h
end
open Go
open Go.RowKit (Below)
section
variable {P : Program} {tab : Tab} {o : Oper}
theorem ok_un {op : UnOp} {t : TypeId} {x : Operand} {cop : Cop} (ho : o.op = .unOp op t x) (hc : un1 P tab (some t) x (.un op) = some cop) : OkOp P tab o cop := by
 obtain ⟨a', ha, rfl⟩ := un1_rel hc
 intro nt g get obj a w hR fresh r hf h K Q hK
 have hx := compA_rel (w := w) ha hR.tmp
 simp only [Cop.args, Qb, Qc, act, optD] at h
 split at h
 ·rename_i d hd
  simp only [Qa] at h
  subst h
  unfold unOp at hd
  split at hd
  ·rename_i k n heq
   rw [heq] at hx
   simp only [VRel, DRel] at hx
   cases op <;> simp at hd
   subst hd
   refine wp_value (v := .int k (k.wrap (-n))) (w' := w) ?_ (hK g _ _ (.refl hR.heap) (by simp only [VRel, DRel]))
   simp only [execOp, ho, hx, Op.unary, Op.intArith, Sem.run_bind, Sem.run_pure, Result.andThen_ok, Int.zero_sub]
  ·rename_i b heq
   rw [heq] at hx
   simp only [VRel, DRel] at hx
   cases op <;> simp at hd
   subst hd
   refine wp_value (v := .bool (!b)) (w' := w) ?_ (hK g _ _ (.refl hR.heap) (by simp only [VRel, DRel]))
   simp [execOp, ho, hx, Op.unary]
  ·cases hd
 ·cases h
theorem ok_nils {op : BinOp} {t e u : TypeId} {x y : Operand} {cop : Cop} (ho : o.op = .binOp op t x y u) (ht : P.underlying t = some (.slice e)) (hop : isEqOp op = true) (hy : isNilConst y = true) (hc : un1 P tab (some t) x (.nils (op == .neq)) = some cop) :
  OkOp P tab o cop := by
 obtain ⟨a', ha, rfl⟩ := un1_rel hc
 intro nt g get obj a w hR fresh r hf h K Q hK
 have hx := compA_rel (w := w) ha hR.tmp
 have hye : a.eval y = .slice none 0 0 := by
  unfold isNilConst at hy
  split at hy
  ·rfl
  ·cases hy
 simp only [Cop.args, Qb, Qc, act] at h
 split at h
 ·rename_i b hb
  simp only [Qa] at h
  subst h
  have key : ∃ A n c, a.eval x = .slice A n c ∧ A.isNone = b := by
   unfold nilSlice at hb
   split at hb
   ·rename_i sz heq
    rw [heq] at hx
    simp only [VRel] at hx
    simp at hb; subst hb
    exact ⟨_, _, _, hx, rfl⟩
   ·rename_i sz r rs heq
    rw [heq] at hx
    simp only [VRel, DRel] at hx
    obtain ⟨A, c, h1, _, _, h2⟩ := hx
    simp at hb; subst hb
    rcases h2 with h2 | ⟨b, o, rfl, _⟩
    ·cases h2
    ·exact ⟨_, _, _, h1, rfl⟩
   ·rename_i i1 i2 sz r rs heq
    rw [heq] at hx
    simp only [VRel, DRel] at hx
    obtain ⟨⟨A, c, h1, _, _, h2⟩, _⟩ := hx
    simp at hb; subst hb
    rcases h2 with h2 | ⟨b, o, rfl, _⟩
    ·cases h2
    ·exact ⟨_, _, _, h1, rfl⟩
   ·cases hb
  obtain ⟨A, n, c, hx', hA⟩ := key
  have he0 : ∀ d, (Op.equalIn (d + 1) t (.slice A n c) (.slice none 0 0)).run P w = .ok A.isNone w := fun d => by
   simp only [Op.equalIn, Sem.run_bind, run_underlying ht, Result.andThen_ok]
   cases A <;> rfl
  have he : (Op.equal t (.slice A n c) (.slice none 0 0)).run P w = .ok A.isNone w := he0 9999
  have hg := eqGuard_ok (P := P) (op := op) (t := t) (x := x) (y := y) (u := .slice A n c) (v := .slice none 0 0) w (by simp) (by simp)
  refine wp_value (v := .bool (if (op == .neq) = true then !b else b)) (w' := w) ?_ (hK g _ _ (.refl hR.heap) (by simp only [VRel, DRel]))
  simp only [execOp, ho, hx', hye, hg, Sem.run_bind, Result.andThen_ok]
  cases op <;> simp [isEqOp] at hop <;> simp [Go.binOp, he, hA] <;> rfl
 ·cases h
theorem ok_conv {s t : TypeId} {k : IntKind} {x : Operand} {cop : Cop} (ho : o.op = .convert s t x) (ht : P.underlying t = some (.int k)) (hs : isIntT P s = true) (hc : un1 P tab (some s) x (.conv k) = some cop) : OkOp P tab o cop := by
 obtain ⟨a', ha, rfl⟩ := un1_rel hc
 obtain ⟨ks, hs⟩ : ∃ k, P.underlying s = some (.int k) := by
  unfold isIntT at hs
  split at hs
  ·exact ⟨_, by assumption⟩
  ·cases hs
 intro nt g get obj a w hR fresh r hf h K Q hK
 have hx := compA_rel (w := w) ha hR.tmp
 simp only [Cop.args, Qb, Qc, act] at h
 split at h
 ·rename_i k' n heq
  injection heq with heq _
  simp only [Qa] at h
  subst h
  rw [heq] at hx
  simp only [VRel, DRel] at hx
  refine wp_value (v := .int k (k.wrap n)) (w' := w) ?_ (hK g _ _ (.refl hR.heap) (by simp only [VRel, DRel]))
  simp [execOp, ho, hx, Go.convert, run_underlying hs, run_underlying ht, Conv.intToInt]
 ·cases h
theorem ok_convStr {s t : TypeId} {x : Operand} {cop : Cop} (ho : o.op = .convert s t x) (ht : P.underlying t = some .string) (hs : isStrT P s = true) (hc : un1 P tab (some s) x .sid = some cop) : OkOp P tab o cop := by
 obtain ⟨a', ha, rfl⟩ := un1_rel hc
 have hs : P.underlying s = some .string := by
  unfold isStrT at hs
  split at hs
  ·assumption
  ·cases hs
 intro nt g get obj a w hR fresh r hf h K Q hK
 have hx := compA_rel (w := w) ha hR.tmp
 simp only [Cop.args, Qb, Qc, act] at h
 split at h
 ·rename_i x heq
  injection heq with heq _
  simp only [Qa] at h
  subst h
  rw [heq] at hx
  have hx0 := hx
  simp only [VRel, DRel] at hx
  obtain ⟨sv, hx, _⟩ := hx
  refine wp_value (v := .string sv) (w' := w) ?_ (hK g _ _ (.refl hR.heap) (by rw [hx] at hx0; exact hx0))
  simp [execOp, ho, hx, Go.convert, run_underlying hs, run_underlying ht]
 ·cases h
theorem bytesR_rel {im : Nat → Nat → Prop} {w : World} : ∀ {xs : List (List D)} {b : List UInt8} {us : List Value}, bytesR xs = some b → DList tab im w xs.flatten us → ∃ ns : List Int, us = ns.map (Value.int .u8) ∧ b = ns.map (fun n => UInt8.ofNat n.toNat) ∧ ns.length = xs.length
 | [], b, us, h, hd => by
  simp only [bytesR, Qa] at h
  subst h
  cases us with
  | nil => exact ⟨[], rfl, rfl, rfl⟩
  | cons u us => simp only [List.flatten_nil, DList] at hd
 | r :: rs, b, us, h, hd => by
  unfold bytesR at h
  split at h
  ·rename_i heq; cases heq
  ·rename_i n r' heq
   cases heq
   split at h
   ·rename_i b' hb
    simp only [Qa] at h
    subst h
    cases us with
    | nil => simp only [List.flatten_cons, List.cons_append, List.nil_append, DList] at hd
    | cons u us =>
     simp only [List.flatten_cons, List.cons_append, List.nil_append, DList, DRel] at hd
     obtain ⟨ns, h1, h2, h3⟩ := bytesR_rel hb hd.2
     exact ⟨n :: ns, by rw [hd.1, h1]; rfl, by rw [h2]; rfl, by simp [h3]⟩
   ·cases h
  ·cases h
theorem fold_push : ∀ (ns : List Int) (s : ByteArray), (ns.foldl (fun r n => r.push (UInt8.ofNat n.toNat)) s).data.toList = s.data.toList ++ ns.map (fun n => UInt8.ofNat n.toNat)
 | [], s => by simp
 | n :: ns, s => by
  rw [List.foldl_cons, fold_push ns]
  simp [ByteArray.push]
theorem ok_bts {s t : TypeId} {x : Operand} {cop : Cop} (ho : o.op = .convert s t x) (ht : P.underlying t = some .string) (hs : isBytesT P s = true) (hc : un1 P tab (some s) x .bts = some cop) : OkOp P tab o cop := by
 obtain ⟨a', ha, rfl⟩ := un1_rel hc
 obtain ⟨e, hs, he, hce⟩ : ∃ e, P.underlying s = some (.slice e) ∧ P.underlying e = some (.int .u8) ∧ P.cellsOf e = 1 := by
  unfold isBytesT at hs
  split at hs
  ·rename_i e hu
   split at hs
   ·rename_i he; exact ⟨e, hu, he, of_decide_eq_true hs⟩
   ·cases hs
  ·cases hs
 intro nt g get obj a w hR fresh r hf h K Q hK
 have hx := compA_rel (w := w) ha hR.tmp
 simp only [Cop.args, Qb, Qc, act] at h
 generalize evA get a' = xv at hx h hK
 split at h
 ·rename_i b hb
  simp only [Qa] at h
  subst h
  have fin : ∀ sv : ByteArray, sv.data.toList = b → (Conv.bytesToString (a.eval x)).run P w = .ok (.string sv) w → o.wp P a w K Q := fun sv h1 h2 => by
   refine wp_value (v := .string sv) (w' := w) ?_ (hK g _ _ (.refl hR.heap) (by simp only [VRel, DRel]; exact ⟨sv, rfl, h1⟩))
   have hcv : (Go.convert s t (a.eval x)).run P w = .ok (.string sv) w := by
    have hsl : ∃ A n c, a.eval x = .slice A n c := by
     unfold bytesV at hb
     split at hb
     ·simp only [VRel, DRel] at hx
      obtain ⟨A, c, h, _⟩ := hx
      exact ⟨_, _, _, h⟩
     ·simp only [VRel, DRel] at hx
      obtain ⟨⟨A, c, h, _⟩, _⟩ := hx
      exact ⟨_, _, _, h⟩
     ·simp only [VRel] at hx
      exact ⟨_, _, _, hx⟩
     ·cases hb
    obtain ⟨A, n, c, hsl⟩ := hsl
    rw [hsl] at h2 ⊢
    simp only [Go.convert, Sem.run_bind, run_underlying hs, run_underlying ht, run_underlying he, Result.andThen_ok]
    exact h2
   simp [execOp, ho, hcv]
  have rows : ∀ (xs : List (List D)), bytesR xs = some b → DRel tab g.im w (.l 1 xs) (a.eval x) → o.wp P a w K Q := fun xs hxs hd => by
   simp only [DRel] at hd
   obtain ⟨A, c, h1, h2, h3, h4⟩ := hd
   rcases h4 with h4 | ⟨bb, oo, rfl, h4⟩
   ·subst h4
    simp only [bytesR, Qa] at hxs
    subst hxs
    refine fin ByteArray.empty rfl ?_
    rw [h1]
    cases A with
    | none => simp [Conv.bytesToString]
    | some aa =>
     have := run_bytesToString (P := P) w aa 0 c [] (by simp [loadCells, loadCellsFrom])
     simpa using this
   ·obtain ⟨us, k1, k2, k3⟩ := h4.cells.get
    obtain ⟨ns, e1, e2, e3⟩ := bytesR_rel hxs k1
    have hl := run_loadCells_list (P := P) w (cellAt bb oo) us (fun j v hj => by rw [add_at]; exact k3 j v hj)
    have hlen : us.length = xs.length := by rw [e1, Qf, e3]
    refine fin _ ?_ (by rw [h1]; exact run_bytesToString (P := P) w (cellAt bb oo) xs.length c ns (by rw [← hlen, ← e1]; exact hl))
    rw [fold_push, e2]; rfl
  unfold bytesV at hb
  split at hb
  ·exact rows _ hb (by simpa only [VRel] using hx)
  ·simp only [VRel] at hx
   exact rows _ hb hx.1
  ·simp only [VRel] at hx
   simp only [Qa] at hb
   subst hb
   refine fin ByteArray.empty rfl ?_
   rw [hx]
   simp [Conv.bytesToString]
  ·cases hb
 ·cases h
theorem ok_fa {t : TypeId} {fs : Array Field} {f : Nat} {fl : Field} {x : Operand} {cop : Cop} (ho : o.op = .fieldAddr t x f) (ht : P.underlying t = some (.struct fs)) (hf : fs[f]? = some fl) (hz : P.cellsOf fl.type ≠ 0) (hc : un1 P tab none x (.fa fl.offset) = some cop) :
  OkOp P tab o cop := by
 obtain ⟨a', ha, rfl⟩ := un1_rel hc
 intro nt g get obj a w hR fresh r hfr h K Q hK
 have hx := compA_rel (w := w) ha hR.tmp
 have run : ∀ b q, a.eval x = .pointer (some (cellAt b q)) → (execOp a.eval o).run P w = .ok (.value (.pointer (some (cellAt b (q + fl.offset))))) w := fun b q e => by
  simp [execOp, ho, e, Instr.fieldAt, run_underlying ht, hf, Instr.sureAddr, fieldPlace, run_size hz, hz, add_at]
 simp only [Cop.args, Qb, Qc, act] at h
 split at h
 ·rename_i id off heq
  injection heq with heq _
  simp only [Qa] at h; subst h
  rw [heq] at hx
  simp only [VRel] at hx
  refine wp_value (run _ _ hx.2) (hK g _ _ (.refl hR.heap) ?_)
  simp only [VRel]
  exact ⟨hx.1, by rw [Nat.add_assoc]⟩
 ·rename_i id ver idx off heq
  injection heq with heq _
  simp only [Qa] at h; subst h
  rw [heq] at hx
  simp only [VRel] at hx
  obtain ⟨⟨ad, e0⟩, ver', sz, xs, h1, h2, h3⟩ := hx
  by_cases e : ver = ver'
  ·refine wp_value (run _ _ (h3 e)) (hK g _ _ (.refl hR.heap) ?_)
   simp only [VRel]
   exact ⟨⟨_, rfl⟩, ver', sz, xs, h1, h2, fun _ => by rw [Nat.add_assoc]⟩
  ·have run2 : (execOp a.eval o).run P w = .ok (.value (.pointer (some (ad.add fl.offset)))) w := by
    simp [execOp, ho, e0, Instr.fieldAt, run_underlying ht, hf, Instr.sureAddr, fieldPlace, run_size hz, hz]
   refine wp_value run2 (hK g _ _ (.refl hR.heap) ?_)
   simp only [VRel]
   exact ⟨⟨_, rfl⟩, ver', sz, xs, h1, h2, fun e' => absurd e' e⟩
 ·rename_i ds off heq
  injection heq with heq _
  simp only [Qa] at h; subst h
  rw [heq] at hx
  simp only [VRel, DRel] at hx
  obtain ⟨b, q, e, hd⟩ := hx
  refine wp_value (run _ _ e) (hK g _ _ (.refl hR.heap) ?_)
  simp only [VRel, DRel]
  exact ⟨b, q, by rw [Nat.add_assoc], hd⟩
 ·cases h
theorem run_part {e : TypeId} (h : okVar P e) {cs : Array Value} {off : Nat} {w : World} (hl : off + P.cellsOf e ≤ cs.size) :
  (part e cs off).run P w = .ok (varOf (isAggT P e) ((cs.toList.drop off).take (P.cellsOf e))) w := by
 obtain ⟨h1, h2, h3⟩ := h
 unfold part varOf
 simp only [Sem.run_bind, run_isAgg h3, Result.andThen_ok]
 cases ha : isAggT P e with
 | true =>
  simp only [if_true, Sem.run_bind, run_size h1, Result.andThen_ok, Sem.run_pure]
  congr 2
  apply Array.ext'
  simp [Array.toList_extract, List.extract_eq_take_drop]
 | false =>
  have h1 : P.cellsOf e = 1 := by simpa [ha] using h2
  have hlt : off < cs.size := by omega
  simp only [Qm, if_false, Array.getElem?_eq_getElem hlt, h1]
  show Result.ok _ _ = _
  congr 1
  rw [← Array.getElem_toList, List.drop_eq_getElem_cons (by simpa using hlt)]
  rfl
theorem fl_rel {g : Gh} {obj : Nat → Option Obj} {w : World} {agg : Bool} {off n : Nat} {cs c : List V} {v : V} (h1 : takeV cs off n = some c) (h2 : asVar agg n c = some v) {us : List Value} (hc : CList tab g obj w cs us) :
  off + n ≤ us.length ∧ VRel tab g obj w v (varOf agg ((us.drop off).take n)) := by
 obtain ⟨h1, rfl⟩ := takeV_some h1
 have hl := hc.length
 exact ⟨by omega, (asVar_rel h2 ((hc.drop off).take n)).2⟩
theorem ok_fl {t : TypeId} {fs : Array Field} {f : Nat} {fl : Field} {x : Operand} {cop : Cop} (ho : o.op = .field t x f) (ht : P.underlying t = some (.struct fs)) (hf : fs[f]? = some fl) (hz : okVar P fl.type)
  (hc : un1 P tab (some t) x (.fl (isAggT P fl.type) fl.offset (P.cellsOf fl.type)) = some cop) : OkOp P tab o cop := by
 obtain ⟨a', ha, rfl⟩ := un1_rel hc
 intro nt g get obj a w hR fresh r hfr h K Q hK
 have hx := compA_rel (w := w) ha hR.tmp
 simp only [Cop.args, Qb, Qc, act] at h
 split at h
 ·rename_i cs heq
  injection heq with heq _
  rw [heq] at hx
  simp only [VRel] at hx
  obtain ⟨us, e, hcs⟩ := hx
  split at h
  ·rename_i c hc1
   simp only [optV] at h
   split at h
   ·rename_i v hv
    simp only [Qa] at h; subst h
    obtain ⟨k1, k2⟩ := fl_rel hc1 hv hcs
    refine wp_value ?_ (hK g _ _ (.refl hR.heap) k2)
    have := run_part (P := P) (w := w) hz (cs := us.toArray) (off := fl.offset) (by simpa using k1)
    simp [execOp, ho, e, Instr.field, run_underlying ht, hf, asAgg, this]
   ·cases h
  ·cases h
 ·cases h
theorem ok_ext {x : Operand} {i : Nat} {cop : Cop} (ho : o.op = .extract x i) (hc : un1 P tab none x (.ext · i) = some cop) : OkOp P tab o cop := by
 obtain ⟨a', ha, rfl⟩ := un1_rel hc
 intro nt g get obj a w hR fresh r hfr h K Q hK
 have hx := compA_rel (w := w) ha hR.tmp
 simp only [Cop.args, Qb, Qc, act] at h
 split at h
 ·rename_i ws heq
  injection heq with heq _
  rw [heq] at hx
  simp only [VRel] at hx
  obtain ⟨us, e, hus⟩ := hx
  split at h
  ·rename_i v hv
   simp only [Qa] at h; subst h
   obtain ⟨u, k1, k2⟩ := hus.get hv
   refine wp_value ?_ (hK g _ _ (.refl hR.heap) k2)
   simp [execOp, ho, e, Instr.extract, k1]
  ·cases h
 ·cases h
theorem run_indexAt {t e : TypeId} (ht : P.underlying t = some (.slice e)) (hz : P.cellsOf e ≠ 0) {b q n c : Nat} {k : IntKind} {i : Int} (h0 : 0 ≤ i) (h1 : i < n) (w : World) :
  (Instr.indexAt t (.slice (some (cellAt b q)) n c) (.int k i)).run P w = .ok (.pointer (some (cellAt b (q + i.toNat * P.cellsOf e)))) w := by
 simp [Instr.indexAt, asIntOf, run_underlying ht, h0, h1, run_size hz, add_at]
theorem ok_ia {t e : TypeId} {x y : Operand} {cop : Cop} (ho : o.op = .indexAddr t x y) (ht : P.underlying t = some (.slice e)) (hz : P.cellsOf e ≠ 0) (hc : bi2 P tab (some t) none x y (.ia (P.cellsOf e)) = some cop) : OkOp P tab o cop := by
 obtain ⟨a', b', ha, hb, rfl⟩ := bi2_rel hc
 intro nt g get obj a w hR fresh r hf h K Q hK
 have hx := compA_rel (w := w) ha hR.tmp
 have hy := compA_rel (w := w) hb hR.tmp
 simp only [Cop.args, Qb, Qc, act, optV] at h
 split at h
 ·rename_i v hv
  simp only [Qa] at h
  subst h
  have key : ∀ (sz : Nat) (xs : List (List D)) (i : Int) (r : List D) (xv : Value), sz = P.cellsOf e → DRel tab g.im w (.l sz xs) xv → 0 ≤ i → xs[i.toNat]? = some r →
    ∃ A, xv = .slice (some A) xs.length (match xv with | .slice _ _ c => c | _ => 0) ∧ ∃ b q, A = cellAt b q ∧ i < xs.length ∧ DRel tab g.im w (.q r 0) (.pointer (some (cellAt b (q + i.toNat * P.cellsOf e)))) := by
   intro sz xs i r xv hs hd h0 hr
   simp only [DRel] at hd
   obtain ⟨A, c, rfl, h1, h2, h3⟩ := hd
   have hlt : i.toNat < xs.length := by
    rcases Qn i.toNat xs.length with h | h
    ·exact h
    ·rw [Qe h] at hr; cases hr
   rcases h3 with h3 | ⟨b, q, rfl, h3⟩
   ·subst h3; simp at hlt
   ·refine ⟨_, rfl, b, q, rfl, by omega, ?_⟩
    simp only [DRel]
    exact ⟨b, q + i.toNat * P.cellsOf e, rfl, by rw [← hs]; exact h3.get h2 hr⟩
  unfold actIa at hv
  split at hv
  ·rename_i sz xs k i heq hos
   injection heq with q1 q2
   injection q2 with q2 _
   rw [q1] at hx
   rw [q2] at hy
   split at hv
   ·rename_i hcond
    split at hv
    ·rename_i rr hrr
     simp only [Qa] at hv; subst hv
     simp only [VRel] at hx
     simp only [VRel, DRel] at hy
     obtain ⟨A, e1, b, q, e2, e3, e4⟩ := key sz xs i rr _ hcond.1 hx hcond.2 hrr
     refine wp_value ?_ (hK g _ _ (.refl hR.heap) (by simp only [VRel]; exact e4))
     simp only [execOp, ho, hy]
     rw [e1, e2]
     simp only [Sem.run_bind, run_indexAt ht hz hcond.2 e3 w, Result.andThen_ok, Sem.run_pure]
    ·cases hv
   ·cases hv
  ·rename_i i1 i2 sz xs k i heq hos
   injection heq with q1 q2
   injection q2 with q2 _
   rw [q1] at hx
   rw [q2] at hy
   split at hv
   ·rename_i hcond
    split at hv
    ·rename_i rr hrr
     simp only [Qa] at hv; subst hv
     simp only [VRel] at hx
     simp only [VRel, DRel] at hy
     obtain ⟨A, e1, b, q, e2, e3, e4⟩ := key sz xs i rr _ hcond.1 hx.1 hcond.2 hrr
     refine wp_value ?_ (hK g _ _ (.refl hR.heap) (by simp only [VRel]; exact e4))
     simp only [execOp, ho, hy]
     rw [e1, e2]
     simp only [Sem.run_bind, run_indexAt ht hz hcond.2 e3 w, Result.andThen_ok, Sem.run_pure]
    ·cases hv
   ·cases hv
  ·rename_i id ver off len k i ver' sz' xs heq hos
   injection heq with q1 q2
   injection q2 with q2 _
   rw [q1] at hx
   rw [q2] at hy
   split at hv
   ·rename_i hcond
    simp only [Qa] at hv; subst hv
    rw [q1, q2] at hos
    simp only [Cop.ids, Qb, Qc, List.cons.injEq, and_true] at hos
    simp only [VRel] at hx
    have hx0 := hx
    simp only [VRel, DRel] at hy
    obtain ⟨_, ver2, sz2, xs2, h1, h2, h3⟩ := hx
    rw [hos] at h1
    cases h1
    obtain ⟨h4, h5⟩ := h3 hcond.1
    obtain ⟨A5, c, h5, h6⟩ := h5
    obtain ⟨⟨A7, c7, h7, hlc⟩, _⟩ := hx0
    rw [h5] at h7
    cases h7
    rcases h6 with h6 | ⟨rfl, _⟩
    ·omega
    ·refine wp_value (v := .pointer (some (cellAt (g.at_ id).blk ((g.at_ id).lo + off * sz' + i.toNat * P.cellsOf e)))) (w' := w) ?_ (hK g _ _ (.refl hR.heap) ?_)
     ·simp only [execOp, ho, hy, h5]
      simp only [Sem.run_bind, run_indexAt ht hz hcond.2.2.1 hcond.2.2.2 w, Result.andThen_ok, Sem.run_pure]
     ·simp only [VRel]
      refine ⟨⟨_, rfl⟩, ver', sz', xs, hos, by omega, fun _ => ?_⟩
      rw [show (off + i.toNat) * sz' = off * sz' + i.toNat * P.cellsOf e by rw [Nat.add_mul, hcond.2.1], Nat.add_zero, Nat.add_assoc]
   ·cases hv
  ·cases hv
 ·cases h
theorem ok_iaa {t e : TypeId} {n : Nat} {x y : Operand} {cop : Cop} (ho : o.op = .indexAddr t x y) (ht : P.underlying t = some (.array n e)) (hz : P.cellsOf e ≠ 0) (hc : bi2 P tab none none x y (.iaa n (P.cellsOf e)) = some cop) : OkOp P tab o cop := by
 obtain ⟨a', b', ha, hb, rfl⟩ := bi2_rel hc
 intro nt g get obj a w hR fresh r hf h K Q hK
 have hx := compA_rel (w := w) ha hR.tmp
 have hy := compA_rel (w := w) hb hR.tmp
 have run : ∀ b q k i, a.eval x = .pointer (some (cellAt b q)) → a.eval y = .int k i → 0 ≤ i → i < n → (execOp a.eval o).run P w = .ok (.value (.pointer (some (cellAt b (q + i.toNat * P.cellsOf e))))) w := fun b q k i e1 e2 h0 h1 => by
  simp [execOp, ho, e1, e2, Instr.indexAt, asIntOf, Instr.sureAddr, run_underlying ht, h0, h1, run_size hz, add_at]
 simp only [Cop.args, Qb, Qc, act] at h
 split at h
 ·rename_i id off k i heq
  injection heq with q1 q2
  injection q2 with q2 _
  rw [q1] at hx
  rw [q2] at hy
  split at h
  ·rename_i hcond
   simp only [Qa] at h; subst h
   simp only [VRel] at hx
   simp only [VRel, DRel] at hy
   refine wp_value (run _ _ _ _ hx.2 hy hcond.1 hcond.2) (hK g _ _ (.refl hR.heap) ?_)
   simp only [VRel]
   exact ⟨hx.1, by rw [Nat.add_assoc]⟩
  ·cases h
 ·rename_i ds off k i heq
  injection heq with q1 q2
  injection q2 with q2 _
  rw [q1] at hx
  rw [q2] at hy
  split at h
  ·rename_i hcond
   simp only [Qa] at h; subst h
   simp only [VRel, DRel] at hx hy
   obtain ⟨b, q, e1, hd⟩ := hx
   refine wp_value (run _ _ _ _ e1 hy hcond.1 hcond.2) (hK g _ _ (.refl hR.heap) ?_)
   simp only [VRel, DRel]
   exact ⟨b, q, by rw [Nat.add_assoc], hd⟩
  ·cases h
 ·cases h
theorem ok_ixs {t : TypeId} {x y : Operand} {cop : Cop} (ho : o.op = .index t x y) (ht : P.underlying t = some .string) (hc : bi2 P tab (some t) none x y .ixs = some cop) : OkOp P tab o cop := by
 obtain ⟨a', b', ha, hb, rfl⟩ := bi2_rel hc
 intro nt g get obj a w hR fresh r hf h K Q hK
 have hx := compA_rel (w := w) ha hR.tmp
 have hy := compA_rel (w := w) hb hR.tmp
 simp only [Cop.args, Qb, Qc, act] at h
 split at h
 ·rename_i s k i heq
  injection heq with q1 q2
  injection q2 with q2 _
  rw [q1] at hx
  rw [q2] at hy
  simp only [VRel, DRel] at hx hy
  obtain ⟨sv, e1, e2⟩ := hx
  split at h
  ·rename_i h0
   split at h
   ·rename_i c hcc
    simp only [Qa] at h; subst h
    have hget : sv[i.toNat]? = some c := by
     rw [← e2] at hcc
     have : sv.data[i.toNat]? = some c := by simpa using hcc
     have hlt : i.toNat < sv.size := (Array.getElem?_eq_some_iff.1 this).1
     rw [getElem?_pos sv i.toNat hlt]
     have := (Array.getElem?_eq_some_iff.1 this).2
     simpa [ByteArray.getElem_eq_getElem_data] using this
    refine wp_value (v := .int .u8 c.toNat) (w' := w) ?_ (hK g _ _ (.refl hR.heap) (by simp only [VRel, DRel]))
    simp [execOp, ho, e1, hy, Instr.index, asIntOf, run_underlying ht, h0, hget]
   ·cases h
  ·cases h
 ·cases h
theorem ok_ixa {t e : TypeId} {n : Nat} {x y : Operand} {cop : Cop} (ho : o.op = .index t x y) (ht : P.underlying t = some (.array n e)) (hz : okVar P e) (hc : bi2 P tab (some t) none x y (.ixa (isAggT P e) n (P.cellsOf e)) = some cop) : OkOp P tab o cop := by
 obtain ⟨a', b', ha, hb, rfl⟩ := bi2_rel hc
 intro nt g get obj a w hR fresh r hf h K Q hK
 have hx := compA_rel (w := w) ha hR.tmp
 have hy := compA_rel (w := w) hb hR.tmp
 simp only [Cop.args, Qb, Qc, act] at h
 split at h
 ·rename_i cs k i heq
  injection heq with q1 q2
  injection q2 with q2 _
  rw [q1] at hx
  rw [q2] at hy
  simp only [VRel] at hx
  simp only [VRel, DRel] at hy
  obtain ⟨us, e1, hus⟩ := hx
  split at h
  ·rename_i hcond
   split at h
   ·rename_i c hcc
    simp only [optV] at h
    split at h
    ·rename_i v hv
     simp only [Qa] at h; subst h
     obtain ⟨k1, k2⟩ := fl_rel hcc hv hus
     refine wp_value ?_ (hK g _ _ (.refl hR.heap) k2)
     have := run_part (P := P) (w := w) hz (cs := us.toArray) (off := i.toNat * P.cellsOf e) (by simpa using k1)
     simp [execOp, ho, e1, hy, Instr.index, asIntOf, run_underlying ht, hcond, run_size hz.1, this]
    ·cases h
   ·cases h
  ·cases h
 ·cases h
end
open Go
open Go.RowKit (Below)
section
variable {P : Program} {tab : Tab} {o : Oper}
theorem ok_len0 {t e : TypeId} {x : Operand} {cop : Cop} (ho : o.op = .call { callee := .builtin .len, args := #[x], argTypes := #[t] }) (ht : P.underlying t = some (.slice e)) (hc : un1 P tab (some t) x (.len 0) = some cop) : OkOp P tab o cop := by
 obtain ⟨a', ha, rfl⟩ := un1_rel hc
 intro nt g get obj a w hR fresh r hf h K Q hK
 have hx := compA_rel (w := w) ha hR.tmp
 have run : ∀ A n c, a.eval x = .slice A n c → (execOp a.eval o).run P w = .ok (.value (.int .i64 n)) w := fun A n c e1 => by
  simp [execOp, ho, resolve, invoke, builtin, e1, Builtin.len_, run_underlying ht, goInt]
 simp only [Cop.args, Qb, Qc] at h hK
 generalize evA get a' = xv at h hx hK
 cases xv with
 | d x =>
  cases x with
  | l sz xs =>
   simp only [act, Qa] at h
   subst h
   simp only [VRel, DRel] at hx
   obtain ⟨A, c, e1, _⟩ := hx
   exact wp_value (run _ _ _ e1) (hK g _ _ (.refl hR.heap) (by simp only [VRel, DRel]))
  | _ => simp [act] at h
 | own id ver sz xs =>
  simp only [act, Qa] at h
  subst h
  simp only [VRel, DRel] at hx
  obtain ⟨⟨A, c, e1, _⟩, _⟩ := hx
  exact wp_value (run _ _ _ e1) (hK g _ _ (.refl hR.heap) (by simp only [VRel, DRel]))
 | nil n =>
  simp only [act, Qa] at h
  subst h
  simp only [VRel] at hx
  exact wp_value (run _ _ _ hx) (hK g _ _ (.refl hR.heap) (by simp only [VRel, DRel]; rfl))
 | arr id ver off n =>
  simp only [act, Qa] at h
  subst h
  simp only [VRel] at hx
  obtain ⟨⟨A, c, e1, _⟩, _⟩ := hx
  exact wp_value (run _ _ _ e1) (hK g _ _ (.refl hR.heap) (by simp only [VRel, DRel]))
 | _ => simp [act] at h
theorem ok_len1 {t : TypeId} {x : Operand} {cop : Cop} (ho : o.op = .call { callee := .builtin .len, args := #[x], argTypes := #[t] }) (ht : P.underlying t = some .string) (hc : un1 P tab (some t) x (.len 1) = some cop) : OkOp P tab o cop := by
 obtain ⟨a', ha, rfl⟩ := un1_rel hc
 intro nt g get obj a w hR fresh r hf h K Q hK
 have hx := compA_rel (w := w) ha hR.tmp
 simp only [Cop.args, Qb, Qc] at h hK
 generalize evA get a' = xv at h hx hK
 cases xv with
 | d x =>
  cases x with
  | s l =>
   simp only [act, Qa] at h
   subst h
   simp only [VRel, DRel] at hx
   obtain ⟨s, e1, e2⟩ := hx
   have hl : s.size = l.length := by rw [← e2, Array.length_toList]; rfl
   refine wp_value (v := .int .i64 s.size) (w' := w) ?_ (hK g _ _ (.refl hR.heap) (by simp only [VRel, DRel, hl]))
   simp [execOp, ho, resolve, invoke, builtin, e1, Builtin.len_, run_underlying ht, goInt]
  | _ => simp [act] at h
 | _ => simp [act] at h
theorem ok_len2 {t k e : TypeId} {x : Operand} {cop : Cop} (ho : o.op = .call { callee := .builtin .len, args := #[x], argTypes := #[t] }) (ht : P.underlying t = some (.map k e)) (hc : un1 P tab (some t) x (.len 2) = some cop) : OkOp P tab o cop := by
 obtain ⟨a', ha, rfl⟩ := un1_rel hc
 intro nt g get obj a w hR fresh r hf h K Q hK
 have hx := compA_rel (w := w) ha hR.tmp
 simp only [Cop.args, Qb, Qc] at h hK
 generalize evA get a' = xv at h hx hK
 cases xv with
 | map id =>
  simp only [Cop.ids, Qb, Qc] at h
  simp only [VRel] at hx
  obtain ⟨h1, h2⟩ := hx
  obtain ⟨kvs, h0⟩ : ∃ kvs, obj id = some (.map kvs) ∨ obj id = some (.cmap kvs) := h1.elim (fun ⟨kvs, h⟩ => ⟨kvs, .inl h⟩) (fun ⟨kvs, h⟩ => ⟨kvs, .inr h⟩)
  have hv : r.v = .d (.i .i64 kvs.length) ∧ r.os = [obj id] ∧ r.nw = none := by
   rcases h0 with h1 | h1
   ·rw [h1] at h; simp only [act, Qa] at h; subst h; exact ⟨rfl, by rw [h1], rfl⟩
   ·rw [h1] at h; simp only [act, Qa] at h; subst h; exact ⟨rfl, by rw [h1], rfl⟩
  obtain ⟨rv, ros, rnw⟩ := r
  simp only at hv
  obtain ⟨rfl, rfl, rfl⟩ := hv
  obtain ⟨es, clock, k1, kv, kp, _, _, _, k2⟩ := hR.heap.map h0
  have hl : es.size = kvs.length := by
   have : ∀ (kvs : List (List D × V)) (es : List MapEntry), EList tab g obj w kvs es → es.length = kvs.length := by
    intro kvs
    induction kvs with
    | nil => intro es h; cases es with | nil => rfl | cons => simp only [EList] at h
    | cons p kvs ih => intro es h; cases es with | nil => simp only [EList] at h | cons e es => simp only [EList] at h; simp [ih es h.2.2]
   rw [← kp.length_eq]
   simpa using this kv es.toList k2
  refine wp_value (v := .int .i64 es.size) (w' := w) ?_ (hK g _ _ (.refl hR.heap) (by simp only [VRel, DRel, hl]))
  have hg : (getObj (g.at_ id).blk).run P w = .ok (.map es clock) w := by simp [getObj, Sem.run, k1]
  simp [execOp, ho, resolve, invoke, builtin, h2, Builtin.len_, run_underlying ht, goInt, hg]
 | _ => simp [act, Cop.ids] at h
theorem compOpt_rel {t : Option TypeId} {x : Option Operand} {y : Option A} (h : compOpt P tab t x = some y) {g : Gh} {obj : Nat → Option Obj} {w : World} {get : Nat → V} {act : Act} (hT : ∀ t, VRel tab g obj w (get t) (act.tmps.getD t undef)) :
  match y, x with
  | none, none => True
  | some y, some x => VRel tab g obj w (evA get y) (act.eval x)
  | _, _ => False := by
 cases x with
 | none => simp only [compOpt, Qa] at h; subst h; trivial
 | some x =>
  simp only [compOpt] at h
  split at h
  ·rename_i a ha
   cases h
   exact compA_rel ha hT
  ·cases h
theorem run_bounds {g : Gh} {obj : Nat → Option Obj} {w : World} {lo hi : Option V} {lv hv : Option Value} {n cap l h : Nat} (hlo : match lo, lv with | none, none => True | some x, some v => VRel tab g obj w x v | _, _ => False)
  (hhi : match hi, hv with | none, none => True | some x, some v => VRel tab g obj w x v | _, _ => False) (hb : bounds lo hi n = some (l, h)) (hc : n ≤ cap) (isSlice : Bool) :
  l ≤ h ∧ h ≤ n ∧ (Instr.sliceBounds isSlice n cap lv hv none).run P w = .ok (l, h, cap) w := by
 have hint : ∀ (x : V) (v : Value) (i : Int), (match some x with | none => some (n : Int) | some (.d (.i _ x)) => some x | _ => none) = some i → VRel tab g obj w x v → ∃ k, v = .int k i := by
  intro x v i h hx
  split at h
  ·rename_i h0; cases h0
  ·rename_i k j h0
   cases h0
   simp only [Qa] at h
   subst h
   simp only [VRel, DRel] at hx
   exact ⟨k, hx⟩
  ·cases h
 unfold bounds at hb
 simp only at hb
 cases hi with
 | none =>
  cases hv with
  | some _ => exact hhi.elim
  | none =>
   cases lo with
   | none =>
    cases lv with
    | some _ => exact hlo.elim
    | none =>
     simp at hb
     obtain ⟨rfl, rfl⟩ := hb
     exact ⟨Nat.zero_le _, Nat.le_refl _, by simp [Instr.sliceBounds]⟩
   | some lx =>
    cases lv with
    | none => exact hlo.elim
    | some v =>
     cases lx with
     | d x =>
      cases x with
      | i k i =>
       simp only [VRel, DRel] at hlo
       subst hlo
       simp only at hb
       split at hb
       ·rename_i hcond
        simp only [Qa, Qj] at hb
        obtain ⟨rfl, rfl⟩ := hb
        refine ⟨by omega, by omega, ?_⟩
        have h1 : 0 ≤ i ∧ i ≤ (n : Int) := ⟨hcond.1, hcond.2.1⟩
        simp [Instr.sliceBounds, Instr.sliceBound, asIntOf, h1]
       ·cases hb
      | _ => simp at hb
     | _ => simp at hb
 | some hx =>
  cases hv with
  | none => exact hhi.elim
  | some v' =>
   cases hx with
   | d x =>
    cases x with
    | i k' j =>
     simp only [VRel, DRel] at hhi
     subst hhi
     cases lo with
     | none =>
      cases lv with
      | some _ => exact hlo.elim
      | none =>
       simp only at hb
       split at hb
       ·rename_i hcond
        simp only [Qa, Qj] at hb
        obtain ⟨rfl, rfl⟩ := hb
        refine ⟨by omega, by omega, ?_⟩
        have h1 : 0 ≤ j ∧ j ≤ (cap : Int) := ⟨by omega, by omega⟩
        simp [Instr.sliceBounds, Instr.sliceBound, asIntOf, h1]
       ·cases hb
     | some lx =>
      cases lv with
      | none => exact hlo.elim
      | some v =>
       cases lx with
       | d x =>
        cases x with
        | i k i =>
         simp only [VRel, DRel] at hlo
         subst hlo
         simp only at hb
         split at hb
         ·rename_i hcond
          simp only [Qa, Qj] at hb
          obtain ⟨rfl, rfl⟩ := hb
          refine ⟨by omega, by omega, ?_⟩
          have h1 : 0 ≤ j ∧ j ≤ (cap : Int) := ⟨by omega, by omega⟩
          have h2 : 0 ≤ i ∧ i ≤ max j 0 := ⟨by omega, by omega⟩
          simp [Instr.sliceBounds, Instr.sliceBound, asIntOf, h1, h2]
         ·cases hb
        | _ => simp at hb
       | _ => simp at hb
    | _ => simp at hb
   | _ => simp at hb
def arrOs (obj : Nat → Option Obj) : V → List (Option Obj)
 | .arr id _ _ _ => [obj id]
 | _ => []
theorem slc_sound {g : Gh} {obj : Nat → Option Obj} {w : World} {t e : TypeId} (ht : P.underlying t = some (.slice e)) (hz : P.cellsOf e ≠ 0) {x v : V} {lo hi : Option V} {lv hv : Option Value} {xv : Value} (hx : VRel tab g obj w x xv)
  (hlo : match lo, lv with | none, none => True | some x, some v => VRel tab g obj w x v | _, _ => False) (hhi : match hi, hv with | none, none => True | some x, some v => VRel tab g obj w x v | _, _ => False)
  {os : List (Option Obj)} (hos : os = arrOs obj x) (h : actSlc (P.cellsOf e) x lo hi os = some v) : ∃ rv, (Instr.sliceAt t xv lv hv none).run P w = .ok rv w ∧ VRel tab g obj w v rv := by
 have run : ∀ (A : Option Addr) (n c l h : Nat), bounds lo hi n = some (l, h) → n ≤ c → l ≤ h ∧ h ≤ n ∧ (Instr.sliceAt t (.slice A n c) lv hv none).run P w = .ok (.slice (if c = l then A else A.map (·.add (l * P.cellsOf e))) (h - l) (c - l)) w := by
  intro A n c l h hb hc
  obtain ⟨h1, h2, h3⟩ := run_bounds (P := P) hlo hhi hb hc true
  refine ⟨h1, h2, ?_⟩
  simp [Instr.sliceAt, Instr.slice, run_underlying ht, h3, run_size hz]
 have rows : ∀ (sz : Nat) (xs : List (List D)) (A : Option Addr) (c l h : Nat), sz = P.cellsOf e → xs.length ≤ c → (∀ r ∈ xs, r.length = sz) → (xs = [] ∨ ∃ b o, A = some (cellAt b o) ∧ DRows tab g.im w b o xs) → l ≤ h → h ≤ xs.length →
   DRel tab g.im w (.l sz ((xs.take h).drop l)) (.slice (if c = l then A else A.map (·.add (l * P.cellsOf e))) (h - l) (c - l)) := by
  intro sz xs A c l h hs hc hxs hX hlh hhn
  simp only [DRel]
  have hlen : ((xs.take h).drop l).length = h - l := by simp; omega
  refine ⟨_, c - l, by rw [hlen], by omega, fun r hr => hxs r (List.mem_of_mem_take (List.mem_of_mem_drop hr)), ?_⟩
  rcases hX with hX | ⟨b, o, rfl, hX⟩
  ·subst hX; exact .inl (by simp)
  ·by_cases hcl : c = l
   ·refine .inl (List.length_eq_zero_iff.1 ?_); omega
   ·refine .inr ⟨b, o + l * sz, ?_, (hX.take h).drop l (fun r hr => hxs r (List.mem_of_mem_take hr))⟩
    rw [if_neg hcl, hs]
    simp [add_at]
 cases x with
 | d x =>
  cases x with
  | l sz xs =>
   simp only [actSlc] at h
   split at h
   ·rename_i hs
    split at h
    ·rename_i l hh hb
     simp only [Qa] at h
     subst h
     simp only [VRel, DRel] at hx
     obtain ⟨A, c, rfl, h1, h2, h3⟩ := hx
     obtain ⟨k1, k2, k3⟩ := run A _ c l hh hb h1
     refine ⟨_, k3, ?_⟩
     subst hs
     simp only [VRel]
     exact rows _ xs A c l hh rfl h1 h2 h3 k1 k2
    ·cases h
   ·cases h
  | _ => simp [actSlc] at h
 | own id ver sz xs =>
  simp only [actSlc] at h
  split at h
  ·rename_i hs
   split at h
   ·rename_i l hh hb
    simp only [VRel, DRel] at hx
    obtain ⟨⟨A, c, rfl, h1, h2, h3⟩, ver', sz', k4, k5, k6⟩ := hx
    obtain ⟨k1, k2, k3⟩ := run A _ c l hh hb h1
    have hr := rows sz xs A c l hh hs h1 h2 h3 k1 k2
    subst hs
    split at h
    ·rename_i he
     simp only [Qa] at h
     subst h
     refine ⟨_, k3, ?_⟩
     subst he
     rw [List.take_length] at hr
     simp only [VRel]
     refine ⟨hr, ver', sz', k4, k5, fun he => ?_⟩
     obtain ⟨m1, A', c', m2, m3⟩ := k6 he
     injection m2 with q1 q2 q3
     subst q1; subst q3
     refine ⟨m1, _, c - l, by rw [List.length_drop], ?_⟩
     rcases m3 with m3 | ⟨b, o, rfl, m4⟩
     ·left; simp; omega
     ·by_cases hcl : c = l
      ·left; simp; omega
      ·right
       refine ⟨b, o + l * P.cellsOf e, by simp [hcl, add_at], ?_⟩
       rw [m4]
       have hmul : xs.length * P.cellsOf e = l * P.cellsOf e + (xs.length - l) * P.cellsOf e := by rw [← Nat.add_mul]; congr 1; omega
       simp only [List.length_drop, Place.mk.injEq, true_and]
       refine ⟨by omega, ?_⟩
       congr 1
       omega
    ·simp only [Qa] at h
     subst h
     refine ⟨_, k3, ?_⟩
     simp only [VRel]
     exact hr
   ·cases h
  ·cases h
 | nil sz' =>
  simp only [actSlc] at h
  split at h
  ·rename_i p hb
   simp only [Qa] at h
   subst h
   simp only [VRel] at hx
   subst hx
   obtain ⟨k1, k2, k3⟩ := run none 0 0 p.1 p.2 hb (Nat.le_refl _)
   have e1 : p.1 = 0 := by omega
   have e2 : p.2 = 0 := by omega
   rw [e1, e2] at k3
   exact ⟨_, k3, by simp only [VRel]; rfl⟩
  ·cases h
 | arr id ver off len =>
  subst hos
  simp only [actSlc, arrOs] at h
  split at h
  ·rename_i ver' sz' xs ho
   simp only [List.cons.injEq, and_true] at ho
   split at h
   ·rename_i hs
    split at h
    ·rename_i l hh hb
     simp only [Qa] at h
     subst h
     simp only [VRel] at hx
     obtain ⟨⟨A, c, rfl, h1⟩, ver2, sz2, xs2, k4, k5, k6⟩ := hx
     rw [ho] at k4
     simp only [Qa, Obj.arr.injEq] at k4
     obtain ⟨rfl, rfl, rfl⟩ := k4
     obtain ⟨k1, k2, k3⟩ := run A _ c l hh hb h1
     refine ⟨_, k3, ?_⟩
     subst hs
     simp only [VRel]
     refine ⟨⟨_, _, rfl, by omega⟩, ver', _, xs, ho, k5, fun he => ?_⟩
     obtain ⟨m1, A', c', m2, m3⟩ := k6 he
     injection m2 with q1 q2 q3
     subst q1; subst q3
     refine ⟨by omega, _, _, rfl, ?_⟩
     rcases m3 with m3 | ⟨rfl, m4⟩
     ·left; omega
     ·by_cases hcl : c = l
      ·left; omega
      ·right
       refine ⟨?_, ?_⟩
       ·rw [if_neg hcl]
        simp only [Option.map_some, Qa, add_at]
        congr 1
        rw [Nat.add_mul]
        omega
       ·rw [show off + l + (c - l) = off + c by omega]; exact m4
    ·cases h
   ·cases h
  ·cases h
 | _ => simp [actSlc] at h
end
open Go
open Go.RowKit (Below)
section
variable {P : Program} {tab : Tab} {o : Oper}
theorem slc_ids (obj : Nat → Option Obj) (sz : Nat) (a : A) (l h : Option A) (x : V) (r : List V) : (Cop.ids (.slc sz a l h) (x :: r)).map obj = arrOs obj x := by
 cases x <;> rfl
theorem ok_slc {t e : TypeId} {x : Operand} {lo hi : Option Operand} {a : A} {l h' : Option A} (ho : o.op = .slice t x lo hi none) (ht : P.underlying t = some (.slice e)) (hz : P.cellsOf e ≠ 0)
  (ha : compA P tab (some t) x = some a) (hl : compOpt P tab none lo = some l) (hh : compOpt P tab none hi = some h') : OkOp P tab o (.slc (P.cellsOf e) a l h') := by
 intro nt g get obj b w hR fresh r hf h K Q hK
 have hx := compA_rel (w := w) ha hR.tmp
 have e1 := compOpt_rel (w := w) hl hR.tmp
 have e2 := compOpt_rel (w := w) hh hR.tmp
 have fin : ∀ (lv hv : Option V), (match lv, lo.map b.eval with | none, none => True | some x, some v => VRel tab g obj w x v | _, _ => False) → (match hv, hi.map b.eval with | none, none => True | some x, some v => VRel tab g obj w x v | _, _ => False) →
   ∀ os, os = arrOs obj (evA get a) → ∀ v, actSlc (P.cellsOf e) (evA get a) lv hv os = some v → ∃ rv, (execOp b.eval o).run P w = .ok (.value rv) w ∧ VRel tab g obj w v rv := by
  intro lv hv k1 k2 os hos v k3
  obtain ⟨rv, m1, m2⟩ := slc_sound (P := P) ht hz hx k1 k2 hos k3
  exact ⟨rv, by simp [execOp, ho, m1], m2⟩
 have done : ∀ v, r = ⟨v, ((Cop.ids (.slc (P.cellsOf e) a l h') ((Cop.args (.slc (P.cellsOf e) a l h')).map (evA get))).map obj), none⟩ → (∃ rv, (execOp b.eval o).run P w = .ok (.value rv) w ∧ VRel tab g obj w v rv) → o.wp P b w K Q := by
  intro v er ⟨rv, m1, m2⟩
  subst er
  exact wp_value m1 (hK g rv w (.refl hR.heap) m2)
 cases l with
 | none =>
  cases lo with
  | some _ => exact e1.elim
  | none =>
   cases h' with
   | none =>
    cases hi with
    | some _ => exact e2.elim
    | none =>
     simp only [Cop.args, Option.toList_none, List.append_nil, Qb, Qc, act, optV] at h
     split at h
     ·rename_i v hv
      simp only [Qa] at h
      exact done v h.symm (fin none none trivial trivial _ (slc_ids ..) v hv)
     ·cases h
   | some y =>
    cases hi with
    | none => exact e2.elim
    | some yo =>
     simp only [Cop.args, Option.toList_none, Option.toList_some, List.append_nil, List.cons_append, List.nil_append, Qb, Qc, act, optV] at h
     split at h
     ·rename_i v hv
      simp only [Qa] at h
      exact done v h.symm (fin none (some (evA get y)) trivial e2 _ (slc_ids ..) v hv)
     ·cases h
 | some z =>
  cases lo with
  | none => exact e1.elim
  | some zo =>
   cases h' with
   | none =>
    cases hi with
    | some _ => exact e2.elim
    | none =>
     simp only [Cop.args, Option.toList_none, Option.toList_some, List.append_nil, List.cons_append, List.nil_append, Qb, Qc, act, optV] at h
     split at h
     ·rename_i v hv
      simp only [Qa] at h
      exact done v h.symm (fin (some (evA get z)) none e1 trivial _ (slc_ids ..) v hv)
     ·cases h
   | some y =>
    cases hi with
    | none => exact e2.elim
    | some yo =>
     simp only [Cop.args, Option.toList_none, Option.toList_some, List.append_nil, List.cons_append, List.nil_append, Qb, Qc, act, optV] at h
     split at h
     ·rename_i v hv
      simp only [Qa] at h
      exact done v h.symm (fin (some (evA get z)) (some (evA get y)) e1 e2 _ (slc_ids ..) v hv)
     ·cases h
theorem sls_sound {g : Gh} {obj : Nat → Option Obj} {w : World} {t : TypeId} (ht : P.underlying t = some .string) {x : List UInt8} {xv : Value} (hx : VRel tab g obj w (.d (.s x)) xv) {lo hi : Option V} {lv hv : Option Value} {l h : Nat}
  (hlo : match lo, lv with | none, none => True | some x, some v => VRel tab g obj w x v | _, _ => False) (hhi : match hi, hv with | none, none => True | some x, some v => VRel tab g obj w x v | _, _ => False)
  (hb : bounds lo hi x.length = some (l, h)) : ∃ rv, (Instr.sliceAt t xv lv hv none).run P w = .ok rv w ∧ VRel tab g obj w (.d (.s ((x.take h).drop l))) rv := by
 simp only [VRel, DRel] at hx
 obtain ⟨s, rfl, rfl⟩ := hx
 have hl : s.data.toList.length = s.size := by rw [Array.length_toList]; rfl
 rw [hl] at hb
 obtain ⟨k1, k2, k3⟩ := run_bounds (P := P) hlo hhi hb (Nat.le_refl _) false
 refine ⟨.string (s.extract l h), by simp [Instr.sliceAt, Instr.slice, run_underlying ht, k3], ?_⟩
 simp only [VRel, DRel]
 refine ⟨_, rfl, ?_⟩
 rw [ByteArray.data_extract, Array.toList_extract, List.extract_eq_take_drop, List.take_drop]
 congr 2
 omega
theorem ok_sls {t : TypeId} {x : Operand} {lo hi : Option Operand} {a : A} {l h' : Option A} (ho : o.op = .slice t x lo hi none) (ht : P.underlying t = some .string)
  (ha : compA P tab (some t) x = some a) (hl : compOpt P tab none lo = some l) (hh : compOpt P tab none hi = some h') : OkOp P tab o (.sls a l h') := by
 intro nt g get obj b w hR fresh r hf h K Q hK
 have hx := compA_rel (w := w) ha hR.tmp
 have e1 := compOpt_rel (w := w) hl hR.tmp
 have e2 := compOpt_rel (w := w) hh hR.tmp
 have fin : ∀ (lv hv : Option V) (xs : List UInt8) (p : Nat × Nat), evA get a = .d (.s xs) → (match lv, lo.map b.eval with | none, none => True | some x, some v => VRel tab g obj w x v | _, _ => False) → (match hv, hi.map b.eval with | none, none => True | some x, some v => VRel tab g obj w x v | _, _ => False) →
   bounds lv hv xs.length = some p → r = ⟨.d (.s ((xs.take p.2).drop p.1)), ((Cop.ids (.sls a l h') ((Cop.args (.sls a l h')).map (evA get))).map obj), none⟩ → o.wp P b w K Q := by
  intro lv hv xs p ea k1 k2 k3 er
  rw [ea] at hx
  obtain ⟨rv, m1, m2⟩ := sls_sound (P := P) ht hx k1 k2 k3
  subst er
  exact wp_value (by simp [execOp, ho, m1]) (hK g rv w (.refl hR.heap) m2)
 cases l with
 | none =>
  cases lo with
  | some _ => exact e1.elim
  | none =>
   cases h' with
   | none =>
    cases hi with
    | some _ => exact e2.elim
    | none =>
     simp only [Cop.args, Option.toList_none, List.append_nil, Qb, Qc, act] at h
     generalize ea : evA get a = xv at h
     cases xv with
     | d x =>
      cases x with
      | s xs =>
       simp only [Qa] at h
       refine fin none none xs (0, xs.length) ea trivial trivial (by simp [bounds]) ?_
       rw [← h]
       simp [Cop.ids]
      | _ => simp at h
     | _ => simp at h
   | some y =>
    cases hi with
    | none => exact e2.elim
    | some yo =>
     simp only [Cop.args, Option.toList_none, Option.toList_some, List.append_nil, List.cons_append, List.nil_append, Qb, Qc, act] at h
     generalize ea : evA get a = xv at h
     cases xv with
     | d x =>
      cases x with
      | s xs =>
       simp only at h
       split at h
       ·rename_i p1 p2 hb
        simp only [Qa] at h
        refine fin none (some (evA get y)) xs (p1, p2) ea trivial e2 hb ?_
        rw [← h]
        simp [Cop.ids]
       ·cases h
      | _ => simp at h
     | _ => simp at h
 | some z =>
  cases lo with
  | none => exact e1.elim
  | some zo =>
   cases h' with
   | none =>
    cases hi with
    | some _ => exact e2.elim
    | none =>
     simp only [Cop.args, Option.toList_none, Option.toList_some, List.append_nil, List.cons_append, List.nil_append, Qb, Qc, act] at h
     generalize ea : evA get a = xv at h
     cases xv with
     | d x =>
      cases x with
      | s xs =>
       simp only at h
       split at h
       ·rename_i p1 p2 hb
        simp only [Qa] at h
        refine fin (some (evA get z)) none xs (p1, p2) ea e1 trivial hb ?_
        rw [← h]
        simp [Cop.ids]
       ·cases h
      | _ => simp at h
     | _ => simp at h
   | some y =>
    cases hi with
    | none => exact e2.elim
    | some yo =>
     simp only [Cop.args, Option.toList_none, Option.toList_some, List.append_nil, List.cons_append, List.nil_append, Qb, Qc, act] at h
     generalize ea : evA get a = xv at h
     cases xv with
     | d x =>
      cases x with
      | s xs =>
       simp only at h
       split at h
       ·rename_i p1 p2 hb
        simp only [Qa] at h
        refine fin (some (evA get z)) (some (evA get y)) xs (p1, p2) ea e1 e2 hb ?_
        rw [← h]
        simp [Cop.ids]
       ·cases h
      | _ => simp at h
     | _ => simp at h
theorem ok_app {t u e ty : TypeId} {x y : Operand} {cop : Cop} (ho : o.op = .call { callee := .builtin .append, args := #[x, y], argTypes := #[t, u] }) (ht : P.underlying t = some (.slice e)) (hu : isSliceT P u = true) (hcz : P.cellsOf e ≠ 0) (hbz : P.bytesOf e ≠ 0)
  (hz : (zeroOf P e).isSome = true) (hc : bi2 P tab (some t) (some u) x y (.app (P.cellsOf e) (P.bytesOf e)) = some cop) : OkOp P tab o cop := by
 obtain ⟨a', b', ha, hb, rfl⟩ := bi2_rel hc
 intro nt g get obj a w hR fresh r hf h K Q hK
 have hx := compA_rel (w := w) ha hR.tmp
 have hy := compA_rel (w := w) hb hR.tmp
 simp only [Cop.args, Qb, Qc, act] at h hK
 obtain ⟨id, ver, zs, e1, ⟨_, e2⟩, g', v, w', k1, k2, k3⟩ := app_sound (P := P) (ty := o.type) hR.heap ht hu hcz hbz hz hf h hx hy
 have hres : resO obj (Cop.wr (.app (P.cellsOf e) (P.bytesOf e) a' b')) (Cop.ids (.app (P.cellsOf e) (P.bytesOf e) a' b') [evA get a', evA get b']) r fresh = updO obj id (some (.tok ver (P.cellsOf e))) := by
  rcases e2 with ⟨m1, m2, m3, m4⟩ | ⟨m1, m2, m3⟩
  ·rw [m4]; simp [resO, m1, m2, m3, updL, Cop.wr]
  ·rw [m3]; simp [resO, m1, m2, updL, Cop.wr]
 rw [hres] at hK
 refine wp_value ?_ (hK g' v w' k2 k3)
 simp [execOp, ho, resolve, invoke, builtin, k1]
theorem fold_sound {g : Gh} {obj : Nat → Option Obj} {w : World} (mx : Bool) (k : IntKind) : ∀ (vs : List V) (us : List Value) (x y : Int), VList tab g obj w vs us → foldI mx k x vs = some y →
  (us.foldlM (fun a b => if mx then Builtin.max2 a b else Builtin.min2 a b) (.int k x)).run P w = .ok (.int k y) w
 | [], [], x, y, _, h => by simp only [foldI, Qa] at h; subst h; simp
 | v :: vs, u :: us, x, y, hv, h => by
  simp only [VList] at hv
  cases v with
  | d d =>
   cases d with
   | i k' z =>
    simp only [foldI] at h
    split at h
    ·rename_i e
     subst e
     have hu := hv.1
     simp only [VRel, DRel] at hu
     subst hu
     have := fold_sound mx k vs us _ y hv.2 h
     cases mx
     ·simp only [Qm, if_false] at this ⊢
      simp only [List.foldlM_cons, Sem.run_bind, Builtin.min2, Sem.run_pure, Result.andThen_ok]
      exact this
     ·simp only [if_true] at this ⊢
      simp only [List.foldlM_cons, Sem.run_bind, Builtin.max2, Sem.run_pure, Result.andThen_ok]
      exact this
    ·cases h
   | _ => simp [foldI] at h
  | _ => simp [foldI] at h
 | [], _ :: _, _, _, hv, _ => by simp only [VList] at hv
 | _ :: _, [], _, _, hv, _ => by simp only [VList] at hv
theorem ok_mm {mx : Bool} {c : Call} {as : List A} (ho : o.op = .call c) (hcal : c.callee = .builtin (if mx then .max else .min)) (hc : compAs P tab (c.argTypes.toList.map some) c.args.toList = some as) : OkOp P tab o (.mm mx as) := by
 intro nt g get obj a w hR fresh r hf h K Q hK
 have hv := compAs_rel (w := w) hc hR.tmp
 simp only [Cop.args, act, optD] at h hK
 split at h
 ·rename_i d hd
  simp only [Qa] at h
  subst h
  generalize as.map (evA get) = vs at hv hd
  cases vs with
  | nil => simp [maxInt] at hd
  | cons v vs =>
   cases v with
   | d dx =>
    cases dx with
    | i k x =>
     simp only [maxInt] at hd
     split at hd
     ·rename_i y hy
      simp only [Qa] at hd
      subst hd
      cases hargs : c.args.toList.map a.eval with
      | nil => rw [hargs] at hv; simp only [VList] at hv
      | cons u us =>
       rw [hargs] at hv
       simp only [VList] at hv
       have hu := hv.1
       simp only [VRel, DRel] at hu
       subst hu
       have hf := fold_sound (P := P) mx k vs us x y hv.2 hy
       have hargs' : (c.args.map a.eval).toList = .int k x :: us := by simpa using hargs
       refine wp_value (v := .int k y) (w' := w) ?_ (hK g _ w (.refl hR.heap) (by simp only [VRel, DRel]))
       cases mx
       ·simp only [Qm, if_false] at hf hcal
        simp [execOp, ho, resolve, hcal, invoke, builtin, Builtin.min_, hargs, hf]
       ·simp only [if_true] at hf hcal
        simp [execOp, ho, resolve, hcal, invoke, builtin, Builtin.max_, hargs, hf]
     ·cases hd
    | _ => simp [maxInt] at hd
   | _ => simp [maxInt] at hd
 ·cases h
theorem ok_mkf {f : FuncId} {first cap : Array Operand} {k : Nat} {as cs : List A} (ho : o.op = .makeFunc (.func f) first cap) (hk : keyOf tab f = some k) (h1 : compAs P tab [] first.toList = some as) (h2 : compAs P tab [] cap.toList = some cs) (has : as = []) :
  OkOp P tab o (.mkf k as cs false) := by
 intro nt g get obj a w hR fresh r hf h K Q hK
 have e1 := compAs_rel (w := w) h1 hR.tmp
 have e2 := compAs_rel (w := w) h2 hR.tmp
 simp only [Cop.args, act, Qm, if_false, Qa] at h hK
 subst h
 refine wp_value (v := .func (.func f) (first.map a.eval) (cap.map a.eval)) (w' := w) ?_ (hK g _ w (.refl hR.heap) ?_)
 ·simp [execOp, ho, Instr.makeFunc]
 ·simp only [VRel]
  refine .inl ⟨f, first.toList.map a.eval, cap.toList.map a.eval, hk, by congr 1 <;> (apply Array.ext'; simp), ?_, ?_, by subst has; simp⟩
  ·rw [List.map_append, List.take_left' (by simp)]; exact e1
  ·rw [List.map_append, List.drop_left' (by simp)]; exact e2
end
open Go
open Go.RowKit (Below)
section
variable {P : Program} {tab : Tab} {o : Oper}
theorem ok_mks {t e : TypeId} {x y : Operand} {z : V} {zd : List D} {ow : Bool} {cop : Cop} (ho : o.op = .makeSlice t x y) (ht : P.underlying t = some (.slice e)) (hz : zeroOf P e = some z) (hzd : V.toDs z.cells = some zd) (hcz : P.cellsOf e ≠ 0) (hbz : P.bytesOf e ≠ 0) (hl : zd.length = P.cellsOf e)
  (hc : bi2 P tab none none x y (.mks (P.cellsOf e) (P.bytesOf e) zd ow) = some cop) : OkOp P tab o cop := by
 obtain ⟨a', b', ha, hb, rfl⟩ := bi2_rel hc
 intro nt g get obj a w hR fresh r hf h K Q hK
 have hx := compA_rel (w := w) ha hR.tmp
 have hy := compA_rel (w := w) hb hR.tmp
 simp only [Cop.args, Qb, Qc, act] at h hK
 obtain ⟨i, z0, hi, hiz, hcel, hzc, hzl, _⟩ := zeroOf_rel (tab := tab) hz g obj w
 have hsz : i.size = P.cellsOf e := by simp [Program.cellsOf, hi]
 have hby : i.bytes = P.bytesOf e := by simp [Program.bytesOf, hi]
 split at h
 ·rename_i k l k' c heq
  injection heq with q1 q2
  injection q2 with q2 _
  rw [q1] at hx
  rw [q2] at hy
  simp only [VRel, DRel] at hx hy
  split at h
  ·rename_i hcond
   obtain ⟨h0, hlc, hroom⟩ := hcond
   simp only [roomy, Qh] at hroom
   have hc1 : c.toNat * 1 ≤ c.toNat * P.bytesOf e := Nat.mul_le_mul_left _ (Nat.one_le_iff_ne_zero.2 hbz)
   have hb48 : (i.bytes : Int) * c ≤ 281474976710656 := by
    rw [hby]
    have : ((c.toNat * P.bytesOf e : Nat) : Int) ≤ 17592186044416 := by omega
    rw [Int.natCast_mul, Int.toNat_of_nonneg (by omega)] at this
    rw [Int.mul_comm]; omega
   have h63 : c ≤ 9223372036854775807 := by omega
   have hrun := run_make (P := P) w t e i z0 ht hi hiz k k' l c h0 hlc hb48 h63
   have hex : (execOp a.eval o).run P w = .ok (.value (.slice (some ⟨w.heap.size, 0, none⟩) l.toNat c.toNat)) (w.alloc (.cells (madeCells z0.cells (c.toNat * i.size)) e)) := by
    simp [execOp, ho, hx, hy, hrun]
   split at h
   ·rename_i hl0
    simp only [Qa] at h
    subst h
    have hzD : DList tab g.im w zd z0.cells.toList := toDs_rel hzd hzc.toV
    have hzs : z0.cells.size = P.cellsOf e := by rw [← Array.length_toList, hzD.length, hl]
    have hrep : ∀ n, DList tab g.im w (List.replicate n zd).flatten (List.replicate n z0.cells.toList).flatten := fun n => by
     induction n with
     | zero => simp [DList]
     | succ n ih => simp only [List.replicate_succ, List.flatten_cons]; exact hzD.append ih
    have hmade : (madeCells z0.cells (c.toNat * i.size)) = ((List.replicate l.toNat z0.cells.toList).flatten ++ (List.replicate (c.toNat - l.toNat) z0.cells.toList).flatten).toArray := by
     have h1 := zero_rows z0.cells (by omega) c.toNat
     rw [hzs] at h1
     have h2 : (List.replicate c.toNat z0.cells.toList).flatten = (List.replicate l.toNat z0.cells.toList).flatten ++ (List.replicate (c.toNat - l.toNat) z0.cells.toList).flatten := by
      rw [← List.flatten_append, List.replicate_append_replicate]
      congr 2; omega
     rw [← h2, ← h1, madeCells, hsz, hzs]
    obtain ⟨g', k1, k2⟩ := app_new (tab := tab) (e := e) hR.heap w.drawn (id := fresh) (ver := 0) (sz := P.cellsOf e) (.inl hf) (zs := List.replicate l.toNat zd) (us := (List.replicate l.toNat z0.cells.toList).flatten) (rest := (List.replicate (c.toNat - l.toNat) z0.cells.toList).flatten) (cap := c.toNat) (hrep _) (fun r hr => by rw [(List.mem_replicate.1 hr).2]; exact hl) (by rw [List.length_replicate]; omega)
     (by rw [List.length_replicate, ← Array.length_toList] at *; simp [List.length_flatten, hzs])
    rw [← hmade, List.length_replicate] at k2
    rw [← hmade] at k1
    refine wp_value hex (hK g' _ _ ?_ ?_)
    ·simpa [resO, Cop.wr, wd] using k1
    ·simpa [resO, Cop.wr, wd] using k2
   ·split at h
    ·rename_i hl0 hlc
     simp only [Qa] at h
     subst h; subst hlc
     have hzD : DList tab g.im w zd z0.cells.toList := toDs_rel hzd hzc.toV
     have hzs : z0.cells.size = P.cellsOf e := by rw [← Array.length_toList, hzD.length, hl]
     have hcell : ∀ q, q < l.toNat * P.cellsOf e → (w.alloc (.cells (madeCells z0.cells (l.toNat * i.size)) e)).cell? (cellAt w.heap.size q) = some (z0.cells[q % P.cellsOf e]!) := fun q hq => by
      rw [World.cell?_alloc_new, madeCells, hsz, hzs]
      simp [hq]
     have hpost := post_alloc (tab := tab) hR.heap hf (madeCells z0.cells (l.toNat * i.size)) e (.arr 0 (P.cellsOf e) (List.replicate l.toNat (ofDs zd))) 0 (l.toNat * P.cellsOf e) (fun _ => False) rfl (fun _ _ _ _ h => h) (fun g' hg' hv => by
      refine ⟨fun r hr => by rw [(List.mem_replicate.1 hr).2]; simp [ofDs, hl], by simp, fun q hq => by show ((w.alloc (.cells (madeCells z0.cells (l.toNat * i.size)) e)).cell? (cellAt w.heap.size (0 + q))).isSome = true; rw [Nat.zero_add, hcell q hq]; rfl, fun j r q d hj hq => ?_⟩
      rw [List.getElem?_replicate] at hj
      split at hj
      ·rename_i hj'
       simp only [Qa] at hj
       subst hj
       obtain ⟨d0, hq0, hd0⟩ : ∃ d0, zd[q]? = some d0 ∧ d = .d d0 := by
        simp only [ofDs, List.getElem?_map, Option.map_eq_some_iff] at hq
        exact hq.imp fun _ k => ⟨k.1, k.2.symm⟩
       subst hd0
       have hql : q < zd.length := by
        rcases Qn q zd.length with h | h
        ·exact h
        ·rw [Qe h] at hq0; cases hq0
       have hmul : (j + 1) * P.cellsOf e ≤ l.toNat * P.cellsOf e := Nat.mul_le_mul_right _ hj'
       rw [Nat.add_mul] at hmul
       obtain ⟨u, m1, m2⟩ : ∃ u, z0.cells.toList[q]? = some u ∧ DRel tab g.im w d0 u := by
        have : ∀ (xs : List D) (us : List Value) (q : Nat) (d : D), DList tab g.im w xs us → xs[q]? = some d → ∃ u, us[q]? = some u ∧ DRel tab g.im w d u := by
         intro xs
         induction xs with
         | nil => intro us q d _ h; simp at h
         | cons x xs ih =>
          intro us q d h1 h2
          cases us with
          | nil => simp only [DList] at h1
          | cons u us =>
           simp only [DList] at h1
           cases q with
           | zero => simp at h2; subst h2; exact ⟨u, rfl, h1.1⟩
           | succ q => simpa using ih us q d h1.2 (by simpa using h2)
        exact this zd _ q d0 hzD hq0
       refine ⟨u, ?_, ?_, m2.one⟩
       ·show (w.alloc _).cell? (cellAt w.heap.size (0 + j * P.cellsOf e + q)) = some u
        rw [Nat.zero_add, hcell _ (by omega)]
        have : (j * P.cellsOf e + q) % P.cellsOf e = q := by rw [Nat.add_comm, Nat.add_mul_mod_self_right, Nat.mod_eq_of_lt (by omega)]
        rw [this]
        rw [Array.getElem?_toList] at m1
        rw [getElem!_pos z0.cells q (by omega)]
        rw [getElem?_pos z0.cells q (by omega)] at m1
        exact m1
       ·exact hv (.d d0) u (by simp only [VRel]; exact m2)
      ·cases hj)
     refine wp_value hex (hK _ _ _ (by simpa [resO, Cop.wr] using hpost) ?_)
     simp only [resO, Cop.wr, VRel, updO_same, updP_same, Qm, if_false]
     refine ⟨⟨_, _, rfl, Nat.le_refl _⟩, 0, P.cellsOf e, _, rfl, Nat.le_refl _, fun _ => ⟨by simp, _, _, rfl, .inr ⟨by simp, by simp⟩⟩⟩
    ·cases h
  ·cases h
 ·cases h
theorem resO_same {obj : Nat → Option Obj} {op : Cop} {ids : List Nat} {v : V} {os : List (Option Obj)} {fresh : Nat} (h : op.wr = false) : resO obj op.wr ids ⟨v, os, none⟩ fresh = obj := by
 simp [resO, h]
theorem freeze1 {g : Gh} {obj : Nat → Option Obj} {w : World} (hH : HRel tab g obj w) {id : Nat} {cs : List V} {ds : List D} (ho : obj id = some (.box cs)) (hd : V.toDs cs = some ds) :
  ∃ g', Post tab g obj w g' (updO obj id (some (.cst ds))) w ∧ g'.at_ id = g.at_ id ∧ DCells tab g'.im w (g.at_ id).blk (g.at_ id).lo ds := by
 obtain ⟨h1, us, h2, h3⟩ := hH.ob id _ ho
 have hlen := toDs_length hd
 have hul := h2.length
 let im' : Nat → Nat → Prop := fun b q => g.im b q ∨ (b = (g.at_ id).blk ∧ (g.at_ id).lo ≤ q ∧ q < (g.at_ id).lo + (g.at_ id).cnt)
 have hown : ∀ b q, b = (g.at_ id).blk → (g.at_ id).lo ≤ q → q < (g.at_ id).lo + (g.at_ id).cnt → owns g obj id b q := fun b q k1 k2 k3 => by
  unfold owns; rw [ho]; exact ⟨k1, k2, k3⟩
 have hno : ∀ b q, ¬ owns ⟨updP g.at_ id (g.at_ id), im'⟩ (updO obj id (some (.cst ds))) id b q := fun b q h => by
  unfold owns at h; rw [updO_same] at h; exact h
 have hcells : DCells tab im' w (g.at_ id).blk (g.at_ id).lo ds := by
  have hdl : DList tab g.im w ds us := toDs_rel hd h2.toV
  refine DCells.mk (us := us) (DList.mono (w := w) (fun _ _ h => .inl h) (fun _ _ _ => rfl) _ _ hdl) h3 (fun q hq => .inr ⟨rfl, Nat.le_add_right _ _, ?_⟩)
  omega
 obtain ⟨k1, k2, k3⟩ := step1 (w' := w) hH id (.cst ds) (g.at_ id) im' rfl rfl rfl (Nat.le_refl _) (fun _ _ => .refl _) (fun _ _ h => .inl h)
  (fun b q h => by
   rcases h with h | ⟨e1, e2, e3⟩
   ·exact .inl h
   ·exact .inr (.inl (hown b q e1 e2 e3)))
  (fun b q h => absurd h (hno b q))
  (fun b q h => absurd h (hno b q))
  (.box (.inl ⟨cs, ho⟩) (.inr ⟨ds, rfl⟩) _)
  (fun _ => hcells)
 exact ⟨_, ⟨k1, k2, k3⟩, updP_same _ _ _, hcells⟩
theorem ptrIds_other {v : V} {vs : List V} (h : ∀ id off, v ≠ .ptr id off) : ptrIds (v :: vs) = ptrIds vs := by
 cases v <;> first | rfl | exact absurd rfl (h _ _)
theorem freezeCaps_other {v : V} {vs : List V} {os : List (Option Obj)} (h : ∀ id off, v ≠ .ptr id off) : freezeCaps (v :: vs) os = (match v.toD, freezeCaps vs os with | some d, some (c, os') => some (d :: c, os') | _, _ => none) := by
 cases v <;> first | rfl | exact absurd rfl (h _ _)
theorem freeze_sound : ∀ (vs : List V) (us : List Value) {g : Gh} {obj : Nat → Option Obj} {w : World} (hH : HRel tab g obj w) {c : List D} {os' : List (Option Obj)}, nodupB (ptrIds vs) = true → freezeCaps vs ((ptrIds vs).map obj) = some (c, os') → VList tab g obj w vs us →
  ∃ g', Post tab g obj w g' (updL obj (ptrIds vs) os') w ∧ DList tab g'.im w c us
 | [], us, g, obj, w, hH, c, os', hn, h, hv => by
  cases us with
  | cons => simp only [VList] at hv
  | nil =>
   simp only [freezeCaps, Qa, Qj] at h
   obtain ⟨rfl, rfl⟩ := h
   exact ⟨g, by simpa [ptrIds, updL] using Post.refl hH, by simp only [DList]⟩
 | v :: vs, us, g, obj, w, hH, c, os', hn, h, hv => by
  cases us with
  | nil => simp only [VList] at hv
  | cons u us =>
   simp only [VList] at hv
   by_cases hp : ∃ id off, v = .ptr id off
   ·obtain ⟨id, off, rfl⟩ := hp
    simp only [ptrIds, nodupB, Qi, Bool.not_eq_true', Qb] at hn h
    have hnot : ∀ j ∈ ptrIds vs, j ≠ id := fun j hj e => by
     subst e
     have := List.contains_iff_mem.2 hj
     rw [hn.1] at this
     cases this
    have hmap : ∀ o', (ptrIds vs).map (updO obj id o') = (ptrIds vs).map obj := fun o' => List.map_congr_left fun j hj => updO_ne _ _ (hnot j hj)
    simp only [VRel] at hv
    cases ho : obj id with
    | none => simp [freezeCaps, ho] at h
    | some ob =>
     cases ob with
     | box cs =>
      simp only [freezeCaps, ho] at h
      split at h
      ·rename_i ds c1 os1 hds hrest
       simp only [Qa, Qj] at h
       obtain ⟨rfl, rfl⟩ := h
       obtain ⟨g1, p1, p2, p3⟩ := freeze1 hH ho hds
       obtain ⟨g2, q1, q2⟩ := freeze_sound vs us p1.heap hn.2 (by rw [hmap]; exact hrest) (hv.2.of_vals p1.vals)
       refine ⟨g2, p1.trans q1, ?_⟩
       simp only [DList]
       refine ⟨?_, q2⟩
       have : VRel tab g1 (updO obj id (some (.cst ds))) w (.d (.q ds off)) u := by
        simp only [VRel, DRel]
        exact ⟨_, _, hv.1.2, p3⟩
       have := q1.vals _ _ this
       simpa only [VRel] using this
      ·cases h
     | cst ds =>
      simp only [freezeCaps, ho] at h
      split at h
      ·rename_i c1 os1 hrest
       simp only [Qa, Qj] at h
       obtain ⟨rfl, rfl⟩ := h
       have hu : updO obj id (some (.cst ds)) = obj := by funext j; unfold updO; split <;> simp_all
       obtain ⟨g2, q1, q2⟩ := freeze_sound vs us hH hn.2 hrest hv.2
       refine ⟨g2, by simp only [ptrIds, updL]; rw [hu]; exact q1, ?_⟩
       simp only [DList]
       refine ⟨?_, q2⟩
       have : VRel tab g obj w (.d (.q ds off)) u := by
        simp only [VRel, DRel]
        exact ⟨_, _, hv.1.2, hH.ob id _ ho⟩
       have := q1.vals _ _ this
       simpa only [VRel] using this
      ·cases h
     | _ => simp [freezeCaps, ho] at h
   ·have hp : ∀ id off, v ≠ .ptr id off := fun id off e => hp ⟨id, off, e⟩
    rw [ptrIds_other hp] at hn h ⊢
    rw [freezeCaps_other hp] at h
    split at h
    ·rename_i d c1 os1 hd hrest
     simp only [Qa, Qj] at h
     obtain ⟨rfl, rfl⟩ := h
     obtain ⟨g2, q1, q2⟩ := freeze_sound vs us hH hn hrest hv.2
     refine ⟨g2, q1, ?_⟩
     simp only [DList]
     refine ⟨?_, q2⟩
     have : VRel tab g obj w (.d d) u := by simp only [VRel]; exact toD_rel hd hv.1
     have := q1.vals _ _ this
     simpa only [VRel] using this
    ·cases h
theorem updL_self (obj : Nat → Option Obj) : ∀ (ids : List Nat), updL obj ids (ids.map obj) = obj
 | [] => rfl
 | i :: r => by
  have : updO obj i (obj i) = obj := by funext j; unfold updO; split <;> simp_all
  simp only [Qb, updL, this]
  exact updL_self obj r
theorem ok_mkf_frz {f : FuncId} {first cap : Array Operand} {k : Nat} {as cs : List A} (ho : o.op = .makeFunc (.func f) first cap) (hk : keyOf tab f = some k) (h1 : compAs P tab [] first.toList = some as) (h2 : compAs P tab [] cap.toList = some cs) (has : as = []) :
  OkOp P tab o (.mkf k as cs true) := by
 intro nt g get obj a w hR fresh r hf h K Q hK
 have e1 := compAs_rel (w := w) h1 hR.tmp
 have e2 := compAs_rel (w := w) h2 hR.tmp
 simp only [Cop.args, Cop.ids, Cop.wr, act, if_true] at h hK
 split at h
 ·rename_i c os' hn hfz
  simp only [Qa] at h
  subst h
  ·obtain ⟨g', p1, p2⟩ := freeze_sound _ (first.toList.map a.eval ++ cap.toList.map a.eval) hR.heap hn hfz (by rw [List.map_append]; exact e1.append e2)
   refine wp_value (v := .func (.func f) (first.map a.eval) (cap.map a.eval)) (w' := w) ?_ (hK g' _ w (by simpa [resO] using p1) ?_)
   ·simp [execOp, ho, Instr.makeFunc]
   ·simp only [VRel, DRel]
    have hl : as.length = (first.toList.map a.eval).length := by have := e1.length; simpa using this.symm
    refine ⟨f, first.toList.map a.eval, cap.toList.map a.eval, hk, by congr 1 <;> (apply Array.ext'; simp), ?_, ?_⟩
    ·have := p2.take as.length; rwa [hl, List.take_left' rfl, ← hl] at this
    ·have := p2.drop as.length; rwa [hl, List.drop_left' rfl, ← hl] at this
 ·split at h
  case h_2 => cases h
  simp only [Qa] at h
  subst h
  refine wp_value (v := .func (.func f) (first.map a.eval) (cap.map a.eval)) (w' := w) (by simp [execOp, ho, Instr.makeFunc]) (hK g _ w ?_ ?_)
  ·simpa [resO, updL_self] using Post.refl hR.heap
  ·have hl : as.length = (first.toList.map a.eval).length := by have := e1.length; simpa using this.symm
   have e3 := e1.append e2
   rw [← List.map_append] at e3
   simp only [resO, if_true, updL_self, VRel]
   refine .inl ⟨f, first.toList.map a.eval, cap.toList.map a.eval, hk, by congr 1 <;> (apply Array.ext'; simp), ?_, ?_, by subst has; simp⟩
   ·have := e3.take as.length; rwa [hl, List.take_left' rfl, ← hl] at this
   ·have := e3.drop as.length; rwa [hl, List.drop_left' rfl, ← hl] at this
 ·cases h
theorem rowsD_length : ∀ {xs : List (List V)} {ds : List (List D)} {sz : Nat}, rowsD xs = some ds → (∀ r ∈ xs, r.length = sz) → ds.length = xs.length ∧ ∀ r ∈ ds, r.length = sz
 | [], ds, sz, h, hs => by
  simp only [rowsD, Qa] at h
  subst h
  simp
 | r :: rs, ds, sz, h, hs => by
  simp only [rowsD] at h
  split at h
  ·rename_i d ds' h1 h2
   simp only [Qa] at h
   subst h
   obtain ⟨k1, k2⟩ := rowsD_length h2 (fun r hr => hs r (by simp [hr]))
   refine ⟨by simp [k1], fun r' hr => ?_⟩
   rcases List.mem_cons.1 hr with rfl | hr
   ·rw [toDs_length h1]; exact hs r (by simp)
   ·exact k2 r' hr
  ·cases h
theorem rows_data {g : Gh} {obj : Nat → Option Obj} {w : World} {im' : Nat → Nat → Prop} (hi : ∀ b o, g.im b o → im' b o) {b sz : Nat} : ∀ (xs : List (List V)) (ds : List (List D)) (lo : Nat),
  (∀ i r q x, xs[i]? = some r → r[q]? = some x → ∃ u, w.cell? (cellAt b (lo + i * sz + q)) = some u ∧ VRel tab g obj w x u ∧ u.oneCell' = true) → (∀ r ∈ xs, r.length = sz) → rowsD xs = some ds → (∀ q, q < xs.length * sz → im' b (lo + q)) → DRows tab im' w b lo ds
 | [], ds, lo, h, hs, hd, him => by
  simp only [rowsD, Qa] at hd
  subst hd
  simp only [DRows]
 | r :: rs, ds, lo, h, hs, hd, him => by
  simp only [rowsD] at hd
  split at hd
  ·rename_i d ds' h1 h2
   simp only [Qa] at hd
   subst hd
   simp only [DRows]
   have hr : r.length = sz := hs r (by simp)
   have hdl := toDs_length h1
   obtain ⟨us, k1, k2⟩ := arr_row h (idx := 0) (row := r) rfl
   rw [Nat.zero_mul, Nat.add_zero] at k2
   have hle : sz ≤ (r :: rs).length * sz := by rw [List.length_cons, Nat.add_mul]; omega
   refine ⟨DCells.mk (us := us) (DList.mono (w := w) hi (fun _ _ _ => rfl) _ _ (toDs_rel h1 k1.toV)) k2 (fun q hq => him q (by omega)), ?_⟩
   rw [hdl, hr]
   refine rows_data (obj := obj) hi rs ds' (lo + sz) (fun i r' q x h3 h4 => ?_) (fun r hr => hs r (by simp [hr])) h2 (fun q hq => ?_)
   ·have := h (i + 1) r' q x (by simpa using h3) h4
    rwa [show lo + (i + 1) * sz + q = lo + sz + i * sz + q by rw [Nat.add_mul]; omega] at this
   ·have := him (sz + q) (by rw [List.length_cons, Nat.add_mul]; omega)
    rwa [← Nat.add_assoc] at this
  ·cases hd
theorem arr_data {g : Gh} {obj : Nat → Option Obj} {w : World} {im' : Nat → Nat → Prop} (hH : HRel tab g obj w) (hi : ∀ b o, g.im b o → im' b o) {id ver sz off len : Nat} {xs : List (List V)} {ds : List (List D)} (ho : obj id = some (.arr ver sz xs)) (hd : rowsD xs = some ds) (hle : off + len ≤ xs.length)
  (him : ∀ b q, owns g obj id b q → im' b q) {v : Value} (hv : VRel tab g obj w (.arr id ver off len) v) : DRel tab im' w (.l sz ((ds.drop off).take len)) v := by
 simp only [VRel] at hv
 obtain ⟨⟨A0, c0, e0, hlc0⟩, ver', sz', xs', h1, h2, h3⟩ := hv
 rw [ho] at h1
 simp only [Qa, Obj.arr.injEq] at h1
 obtain ⟨rfl, rfl, rfl⟩ := h1
 obtain ⟨_, A, c, e1, h4⟩ := h3 rfl
 rw [e0] at e1
 simp only [Value.slice.injEq] at e1
 obtain ⟨rfl, _, rfl⟩ := e1
 obtain ⟨k1, k2, k4, k5⟩ := hH.ob id _ ho
 obtain ⟨l1, l2⟩ := rowsD_length hd k1
 have hrows : DRows tab im' w (g.at_ id).blk (g.at_ id).lo ds := rows_data hi xs ds _ k5 k1 hd (fun q hq => him _ _ (by unfold owns; rw [ho]; exact ⟨rfl, by omega, by omega⟩))
 have hl : ((ds.drop off).take len).length = len := by simp; omega
 simp only [DRel]
 refine ⟨A0, c0, by rw [hl]; exact e0, by rw [hl]; exact hlc0, fun r hr => l2 r (List.mem_of_mem_drop (List.mem_of_mem_take hr)), ?_⟩
 rcases h4 with h4 | ⟨h4, _⟩
 ·exact .inl (List.length_eq_zero_iff.1 (by omega))
 ·exact .inr ⟨_, _, h4, (hrows.drop off l2).take len⟩
theorem freeze_arr {g : Gh} {obj : Nat → Option Obj} {w : World} (hH : HRel tab g obj w) {id ver sz : Nat} {xs : List (List V)} {ds : List (List D)} (ho : obj id = some (.arr ver sz xs)) (hd : rowsD xs = some ds) :
  ∃ g', Post tab g obj w g' (updO obj id (some (.arr (ver + 1) sz []))) w ∧ ∀ off len v, off + len ≤ xs.length → VRel tab g obj w (.arr id ver off len) v → DRel tab g'.im w (.l sz ((ds.drop off).take len)) v := by
 let im' : Nat → Nat → Prop := fun b q => g.im b q ∨ owns g obj id b q
 have hno : ∀ b q, ¬ owns ⟨updP g.at_ id ⟨0, 0, 0⟩, im'⟩ (updO obj id (some (.arr (ver + 1) sz []))) id b q := fun b q h => by
  unfold owns at h
  rw [updO_same] at h
  simp only [updP_same] at h
  omega
 obtain ⟨k1, k2, k3⟩ := step1 (w' := w) hH id (.arr (ver + 1) sz []) ⟨0, 0, 0⟩ im' rfl rfl rfl (Nat.le_refl _) (fun _ _ => .refl _) (fun _ _ h => .inl h)
  (fun b q h => by
   rcases h with h | h
   ·exact .inl h
   ·exact .inr (.inl h))
  (fun b q h => absurd h (hno b q))
  (fun b q h => absurd h (hno b q))
  (by
   intro j
   by_cases e : j = id
   ·subst e; rw [ho]
    exact ⟨_, _, updO_same _ _ _, Nat.le_succ _, fun e => by omega⟩
   ·have := OEvo.refl g obj j
    rw [updO_ne _ _ e, show (⟨updP g.at_ id ⟨0, 0, 0⟩, im'⟩ : Gh).at_ j = g.at_ j from updP_ne _ _ e]
    exact this)
  (fun _ => ⟨by simp, by simp, fun q hq => by simp at hq, fun i r q x h => by simp at h⟩)
 exact ⟨_, ⟨k1, k2, k3⟩, fun off len v hle hv => arr_data hH (fun _ _ h => .inl h) ho hd hle (fun b q h => .inr h) hv⟩
theorem ok_frz {x : Operand} {cop : Cop} (ho : o.op = .move x ∨ o.op = .assign x) (hc : un1 P tab (some o.type) x .frz = some cop) : OkOp P tab o cop := by
 obtain ⟨a', ha, rfl⟩ := un1_rel hc
 intro nt g get obj a w hR fresh r hf h K Q hK
 have hx := compA_rel (w := w) ha hR.tmp
 have hex : (execOp a.eval o).run P w = .ok (.value (a.eval x)) w := by rcases ho with ho | ho <;> simp [execOp, ho]
 simp only [Cop.args, Qb, Qc, act, Cop.wr] at h hK
 generalize evA get a' = xv at hx h hK
 cases xv with
 | arr id ver off len =>
  simp only [Cop.ids, Qb, Qc] at h hK
  cases hob : obj id with
  | none => simp [actFrz, hob] at h
  | some ob =>
   cases ob <;> simp only [actFrz, hob] at h <;> try (cases h; done)
   rename_i ver' sz xs
   split at h
   ·rename_i hcond
    split at h
    ·rename_i ds hds
     simp only [Qa] at h
     subst h
     obtain ⟨rfl, hle⟩ := hcond
     obtain ⟨g', p1, p2⟩ := freeze_arr hR.heap hob hds
     refine wp_value hex (hK g' _ w (by simpa [resO, updL] using p1) ?_)
     simp only [VRel]
     exact p2 off len _ hle hx
    ·cases h
   ·cases h
 | _ =>
  simp only [Cop.ids, Qc, actFrz, Qa] at h hK
  subst h
  exact wp_value hex (hK g _ w (by simpa [resO, updL] using Post.refl hR.heap) (by simpa [resO, updL] using hx))
end
open Go
open Go.RowKit (Below)
section
variable {P : Program} {tab : Tab} {g : Gh} {obj : Nat → Option Obj} {w : World}
theorem CList.drop_take {xs : List V} {us : List Value} (h : CList tab g obj w xs us) (a b : Nat) : CList tab g obj w ((xs.drop a).take b) ((us.drop a).take b) := (h.drop a).take b
theorem rows_flatten_drop {α : Type} {sz : Nat} : ∀ {xs : List (List α)} (n : Nat), (∀ r ∈ xs, r.length = sz) → (xs.drop n).flatten = xs.flatten.drop (n * sz)
 | xs, 0, _ => by simp
 | [], n + 1, _ => by simp
 | r :: xs, n + 1, h => by
  have hr : r.length = sz := h r (by simp)
  rw [List.drop_succ_cons, rows_flatten_drop n (fun r hr => h r (List.mem_cons_of_mem _ hr)), List.flatten_cons, Nat.add_mul, Nat.one_mul, Nat.add_comm, ← hr, List.drop_append]
  simp
theorem rows_flatten_take {α : Type} {sz : Nat} : ∀ {xs : List (List α)} (n : Nat), (∀ r ∈ xs, r.length = sz) → (xs.take n).flatten = xs.flatten.take (n * sz)
 | xs, 0, _ => by simp
 | [], n + 1, _ => by simp
 | r :: xs, n + 1, h => by
  have hr : r.length = sz := h r (by simp)
  rw [List.take_succ_cons, List.flatten_cons, rows_flatten_take n (fun r hr => h r (List.mem_cons_of_mem _ hr)), List.flatten_cons, Nat.add_mul, Nat.one_mul, Nat.add_comm, ← hr, List.take_append]
  simp [List.take_of_length_le (Nat.le_add_right r.length (n * r.length))]
theorem arr_cells {b sz : Nat} : ∀ (xs : List (List V)) (lo : Nat), (∀ r ∈ xs, r.length = sz) →
  (∀ i r q x, xs[i]? = some r → r[q]? = some x → ∃ u, w.cell? (cellAt b (lo + i * sz + q)) = some u ∧ VRel tab g obj w x u ∧ u.oneCell' = true) →
  ∃ us, CList tab g obj w xs.flatten us ∧ us.length = xs.length * sz ∧ Holds w b lo us
 | [], lo, _, _ => ⟨[], by simp [CList], by simp, Holds.nil' w b lo⟩
 | r :: xs, lo, hs, h => by
  have hr : r.length = sz := hs r (by simp)
  obtain ⟨us, k1, k2⟩ := arr_row (tab := tab) (g := g) (obj := obj) h (idx := 0) (row := r) rfl
  obtain ⟨vs, m1, m2, m3⟩ := arr_cells xs (lo + sz) (fun r hr => hs r (List.mem_cons_of_mem _ hr)) (fun i r q x h1 h2 => by
   obtain ⟨u, p1, p2⟩ := h (i + 1) r q x (by simpa using h1) h2
   refine ⟨u, ?_, p2⟩
   rw [← p1]
   congr 2
   rw [Nat.add_mul]; omega)
  refine ⟨us ++ vs, by rw [List.flatten_cons]; exact k1.append m1, ?_, ?_⟩
  ·have := k1.length
   rw [Qg, m2, this, hr, List.length_cons, Nat.add_mul]; omega
  ·refine Holds.append (by simpa using k2) ?_
   rw [k1.length, hr]; exact m3
theorem cells_arr {b sz : Nat} : ∀ (xs : List (List V)) (us : List Value) (lo : Nat), (∀ r ∈ xs, r.length = sz) → CList tab g obj w xs.flatten us → Holds w b lo us →
  ∀ i r q x, xs[i]? = some r → r[q]? = some x → ∃ u, w.cell? (cellAt b (lo + i * sz + q)) = some u ∧ VRel tab g obj w x u ∧ u.oneCell' = true
 | [], us, lo, _, _, _ => fun i r q x h => by simp at h
 | r0 :: xs, us, lo, hs, hc, hh => fun i r q x h1 h2 => by
  have hr : r0.length = sz := hs r0 (by simp)
  rw [List.flatten_cons] at hc
  cases i with
  | zero =>
   simp only [List.getElem?_cons_zero, Qa] at h1
   subst h1
   have hql : q < r0.length := by
    rcases Qn q r0.length with h | h
    ·exact h
    ·rw [Qe h] at h2; cases h2
   obtain ⟨u, k1, k2, k3⟩ := hc.get (i := q) (x := x) (by rw [List.getElem?_append_left hql]; exact h2)
   exact ⟨u, by simpa using hh q u k1, k2, k3⟩
  | succ i =>
   have hd := hc.drop r0.length
   rw [List.drop_left' rfl] at hd
   obtain ⟨u, k1, k2⟩ := cells_arr xs (us.drop r0.length) (lo + sz) (fun r hr => hs r (List.mem_cons_of_mem _ hr)) hd (by rw [← hr]; exact hh.drop _) i r q x (by simpa using h1) h2
   refine ⟨u, ?_, k2⟩
   rw [← k1]
   congr 2
   rw [Nat.add_mul]; omega
def okArr (obj : Nat → Option Obj) (id ver sz : Nat) : Prop := obj id = none ∨ ∃ v xs, v < ver ∧ obj id = some (.arr v sz xs)
theorem OEvo.arr {id ver sz : Nat} (h : okArr obj id ver sz) (p : Place) (im' : Nat → Nat → Prop) (xs : List (List V)) : OEvo g obj ⟨updP g.at_ id p, im'⟩ (updO obj id (some (.arr ver sz xs))) := by
 rcases h with h | ⟨v, xs0, hv, h⟩
 ·exact .fresh h _ _ _
 ·intro j
  by_cases e : j = id
  ·subst e; rw [h]
   exact ⟨ver, xs, updO_same _ _ _, by omega, fun e => by omega⟩
  ·have := OEvo.refl g obj j
   rw [updO_ne _ _ e, show (⟨updP g.at_ id p, im'⟩ : Gh).at_ j = g.at_ j from updP_ne _ _ e]
   exact this
theorem arr_new (hH : HRel tab g obj w) (dr : Nat) {id ver sz : Nat} (ht : okArr obj id ver sz) {zs : List (List V)} {us rest : List Value} {e : TypeId} {cap : Nat} (hz : CList tab g obj w zs.flatten us) (hs : ∀ r ∈ zs, r.length = sz)
  (hcap : zs.length ≤ cap) (hrest : rest.length = (cap - zs.length) * sz) :
  ∃ g', Post tab g obj w g' (updO obj id (some (.arr ver sz zs))) ((wd w dr).alloc (.cells (us ++ rest).toArray e)) ∧
   VRel tab g' (updO obj id (some (.arr ver sz zs))) ((wd w dr).alloc (.cells (us ++ rest).toArray e)) (.arr id ver 0 zs.length) (.slice (some ⟨w.heap.size, 0, none⟩) zs.length cap) := by
 have hl : us.length = zs.length * sz := by rw [hz.length, flatten_length hs]
 have hmul : cap * sz = zs.length * sz + (cap - zs.length) * sz := by rw [← Nat.add_mul]; congr 1; omega
 have hsz : ((wd w dr).alloc (.cells (us ++ rest).toArray e)).heap.size = w.heap.size + 1 := Array.size_push ..
 have hblk : ∀ b, b < w.heap.size → ((wd w dr).alloc (.cells (us ++ rest).toArray e)).heap[b]? = w.heap[b]? := fun b hb => by
  show (w.heap.push _)[b]? = _; rw [Array.getElem?_push, if_neg (by omega)]
 have hold : Holds ((wd w dr).alloc (.cells (us ++ rest).toArray e)) w.heap.size 0 (us ++ rest) := holds_alloc (wd w dr) (us ++ rest) e
 have hlen : (us ++ rest).length = cap * sz := by rw [Qg, hl, hrest, hmul]
 have howns : ∀ b q, owns ⟨updP g.at_ id ⟨w.heap.size, 0, cap * sz⟩, g.im⟩ (updO obj id (some (.arr ver sz zs))) id b q → b = w.heap.size ∧ q < cap * sz := fun b q h => by
  unfold owns at h
  simp only [updO_same, updP_same] at h
  exact ⟨h.1, by omega⟩
 have hus : Holds ((wd w dr).alloc (.cells (us ++ rest).toArray e)) w.heap.size 0 us := fun q u hq => hold q u (by
  have hlt : q < us.length := by
   rcases Qn q us.length with h | h
   ·exact h
   ·rw [Qe h] at hq; cases hq
  rw [List.getElem?_append_left hlt]; exact hq)
 obtain ⟨h1, h2, h3⟩ := step1 (w' := (wd w dr).alloc (.cells (us ++ rest).toArray e)) hH id (.arr ver sz zs) ⟨w.heap.size, 0, cap * sz⟩ g.im rfl rfl rfl (by omega)
  (fun b hb => .inl (hblk b hb)) (fun _ _ h => h)
  (fun b q h => .inl h)
  (fun b q h => by
   obtain ⟨rfl, k2⟩ := howns b q h
   refine ⟨.inr ⟨Nat.le_refl _, by omega⟩, fun h => ?_⟩
   have := hH.imOld _ _ h; omega)
  (fun b q h _ q' => by
   obtain ⟨rfl, k2⟩ := howns b q h
   show ((wd w dr).alloc _).frozen? ⟨(wd w dr).heap.size, q', none⟩ = false
   exact World.frozen?_alloc_new ..)
  (.arr ht _ _ _)
  (fun hv => by
   refine ⟨hs, by show zs.length * sz ≤ cap * sz; omega, fun q hq => ?_, ?_⟩
   ·have hq' : q < cap * sz := hq
    have := hold q (us ++ rest)[q] (Qd (by omega))
    show (((wd w dr).alloc (.cells (us ++ rest).toArray e)).cell? (cellAt w.heap.size (0 + q))).isSome = true
    rw [this]; rfl
   ·exact cells_arr zs us 0 hs (hz.of_vals hv) hus)
 refine ⟨_, ⟨h1, h2, h3⟩, ?_⟩
 simp only [VRel]
 refine ⟨⟨_, _, rfl, hcap⟩, ver, sz, zs, updO_same _ _ _, Nat.le_refl _, fun _ => ⟨by omega, _, _, rfl, .inr ⟨?_, ?_⟩⟩⟩
 ·simp [updP_same]
 ·simp [updP_same]
theorem arr_room (hH : HRel tab g obj w) {id v0 ver sz : Nat} {xs ys : List (List V)} (ho : obj id = some (.arr v0 sz xs)) (hv : v0 < ver) {us : List Value} {A : Option Addr} {off len c : Nat}
  (hle : off + len ≤ xs.length) (hat : c = 0 ∨ (A = some (cellAt (g.at_ id).blk ((g.at_ id).lo + off * sz)) ∧ (off + c) * sz ≤ (g.at_ id).cnt)) (hroom : len + ys.length ≤ c)
  (hy : CList tab g obj w ys.flatten us) (hys : ∀ r ∈ ys, r.length = sz) :
  (∀ j, j < us.length → (w.cell? (cellAt (g.at_ id).blk ((g.at_ id).lo + (off + len) * sz + j))).isSome = true) ∧ (∀ j, j < us.length → w.frozen? (cellAt (g.at_ id).blk ((g.at_ id).lo + (off + len) * sz + j)) = false) ∧
  ∃ g', Post tab g obj w g' (updO obj id (some (.arr ver sz ((xs.drop off).take len ++ ys)))) (w.setCells (g.at_ id).blk ((g.at_ id).lo + (off + len) * sz) us) ∧
   VRel tab g' (updO obj id (some (.arr ver sz ((xs.drop off).take len ++ ys)))) (w.setCells (g.at_ id).blk ((g.at_ id).lo + (off + len) * sz) us) (.arr id ver 0 (len + ys.length)) (.slice A (len + ys.length) c) := by
 obtain ⟨hs, hcnt, hsome, hcells⟩ := hH.ob id _ ho
 have hl : us.length = ys.length * sz := by rw [hy.length, flatten_length hys]
 generalize hp : g.at_ id = p at *
 obtain ⟨b, lo, cnt⟩ := p
 simp only at hcnt hsome hcells hat ⊢
 have hoff : off * sz + len * sz ≤ cnt := by
  have := Nat.mul_le_mul_right sz hle
  rw [Nat.add_mul] at this; omega
 have hend : off * sz + len * sz + ys.length * sz ≤ cnt := by
  rcases hat with hat | hat
  ·have : ys.length = 0 := by omega
   rw [this]; omega
  ·have h1 := hat.2
   have h2 : (off + (len + ys.length)) * sz ≤ (off + c) * sz := Nat.mul_le_mul_right sz (by omega)
   rw [Nat.add_mul, Nat.add_mul] at h2
   omega
 have hadd : (off + len) * sz = off * sz + len * sz := Nat.add_mul ..
 have hown : ∀ q, lo ≤ q → q < lo + cnt → owns g obj id b q := fun q h1 h2 => by
  unfold owns; rw [ho, hp]; exact ⟨rfl, h1, h2⟩
 have hcell' : ∀ j, j < us.length → (w.cell? (cellAt b (lo + (off + len) * sz + j))).isSome = true := fun j hj => by
  have := hsome ((off + len) * sz + j) (by omega)
  rwa [← Nat.add_assoc] at this
 have hfr : ∀ j, j < us.length → w.frozen? (cellAt b (lo + (off + len) * sz + j)) = false := fun j hj => hH.frz id _ _ (hown (lo + (off + len) * sz + j) (by omega) (by omega)) (fun kvs => by rw [ho]; simp) _
 refine ⟨hcell', hfr, ?_⟩
 obtain ⟨e1, e2, e3, e4⟩ := setCells_os b us (lo + (off + len) * sz) w
 let p' : Place := ⟨b, lo + off * sz, cnt - off * sz⟩
 let zs := (xs.drop off).take len ++ ys
 have hzl : ((xs.drop off).take len).length = len := by simp; omega
 have hzs : ∀ r ∈ zs, r.length = sz := fun r hr => (List.mem_append.1 hr).elim (fun h => hs r (List.mem_of_mem_drop (List.mem_of_mem_take h))) (hys r)
 have howns : ∀ b' q, owns ⟨updP g.at_ id p', g.im⟩ (updO obj id (some (.arr ver sz zs))) id b' q → owns g obj id b' q := fun b' q h => by
  unfold owns at h
  simp only [updO_same, updP_same] at h
  obtain ⟨h1, h2, h3⟩ := h
  have h1' : b' = b := h1
  have h2' : lo + off * sz ≤ q := h2
  have h3' : q < lo + off * sz + (cnt - off * sz) := h3
  subst h1'
  exact hown q (by omega) (by omega)
 obtain ⟨us0, c1, c2, c3⟩ := arr_cells (tab := tab) (g := g) (obj := obj) (w := w) xs lo hs hcells
 have hold : CList tab g obj w ((xs.drop off).take len).flatten ((us0.drop (off * sz)).take (len * sz)) := by
  rw [rows_flatten_take len (fun r hr => hs r (List.mem_of_mem_drop hr)), rows_flatten_drop off hs]
  exact (c1.drop _).take _
 have holdl : ((us0.drop (off * sz)).take (len * sz)).length = len * sz := by
  simp; rw [c2]
  have := Nat.mul_le_mul_right sz hle
  rw [Nat.add_mul] at this; omega
 have hh0 : Holds w b (lo + off * sz) ((us0.drop (off * sz)).take (len * sz)) := (c3.drop _).take _
 have hout : ∀ q, q < len * sz → (w.setCells b (lo + (off + len) * sz) us).cell? (cellAt b (lo + off * sz + q)) = w.cell? (cellAt b (lo + off * sz + q)) := fun q hq => by
  rw [World.cell?_setCells_out _ _ _ _ _ (fun _ _ => by show lo + off * sz + q < lo + (off + len) * sz ∨ lo + (off + len) * sz + us.length ≤ lo + off * sz + q; omega)]
 obtain ⟨h1, h2, h3⟩ := step1 (w' := w.setCells b (lo + (off + len) * sz) us) hH id (.arr ver sz zs) p' g.im e1 e2 e3 (by omega)
  (fun b' hb => (blockEvo_setCells b b' us (lo + (off + len) * sz) w).mono fun q ⟨m1, m2, m3⟩ => by subst m1; exact hown q (by omega) (by omega))
  (fun _ _ h => h)
  (fun b' q h => .inl h)
  (fun b' q h => ⟨.inl (howns b' q h), hH.imm id _ _ (howns b' q h)⟩)
  (fun b' q h _ q' => by
   rw [World.frozen?_setCells]
   exact hH.frz id _ _ (howns b' q h) (fun kvs => by rw [ho]; simp) q')
  (.arr (.inr ⟨v0, xs, hv, ho⟩) _ _ _)
  (fun hv => by
   refine ⟨hzs, ?_, fun q hq => ?_, ?_⟩
   ·show zs.length * sz ≤ cnt - off * sz
    rw [Qg, hzl, Nat.add_mul]; omega
   ·have hq' : q < cnt - off * sz := hq
    have := hsome (off * sz + q) (by omega)
    refine (blockEvo_setCells b b us (lo + (off + len) * sz) w).isSome (b := b) ?_
    show (w.cell? (cellAt b (lo + off * sz + q))).isSome = true
    rwa [← Nat.add_assoc] at this
   ·refine cells_arr zs ((us0.drop (off * sz)).take (len * sz) ++ us) (lo + off * sz) hzs ?_ ?_
    ·rw [List.flatten_append]
     exact (hold.of_vals hv).append (hy.of_vals hv)
    ·refine Holds.append (fun q u hq => ?_) ?_
     ·have hql : q < len * sz := by
       rcases Qn q (len * sz) with h | h
       ·exact h
       ·rw [Qe (by omega)] at hq; cases hq
      rw [hout q hql]
      exact hh0 q u hq
     ·rw [holdl, show lo + off * sz + len * sz = lo + (off + len) * sz by omega]
      exact holds_setCells hcell')
 refine ⟨_, ⟨h1, h2, h3⟩, ?_⟩
 simp only [VRel]
 refine ⟨⟨_, _, rfl, hroom⟩, ver, sz, zs, updO_same _ _ _, Nat.le_refl _, fun _ => ⟨by rw [Qg, hzl]; omega, A, c, rfl, ?_⟩⟩
 rcases hat with hat | ⟨hat1, hat2⟩
 ·exact .inl hat
 ·refine .inr ?_
  rw [updP_same]
  refine ⟨by simp [p', hat1], ?_⟩
  show (0 + c) * sz ≤ cnt - off * sz
  rw [Nat.add_mul] at hat2
  rw [Nat.zero_add]
  omega
end
open Go
open Go.RowKit (Below)
theorem eqDs_length : ∀ {ks : List CK} {xs ys : List D} {r : Bool}, eqDs ks xs ys = some r → xs.length = ks.length ∧ ys.length = ks.length
 | [], [], [], _, _ => ⟨rfl, rfl⟩
 | k :: ks, x :: xs, y :: ys, r, h => by
  simp only [eqDs] at h
  split at h
  ·rename_i a b h1 h2
   have := eqDs_length h2
   simp [this.1, this.2]
  ·cases h
 | [], _ :: _, _, _, h => by simp [eqDs] at h
 | [], [], _ :: _, _, h => by simp [eqDs] at h
 | _ :: _, [], _, _, h => by simp [eqDs] at h
 | _ :: _, _ :: _, [], _, h => by simp [eqDs] at h
theorem eqDs_append : ∀ {k ks : List CK} {xs ys : List D} {r : Bool}, eqDs (k ++ ks) xs ys = some r → ∃ a b, eqDs k (xs.take k.length) (ys.take k.length) = some a ∧ eqDs ks (xs.drop k.length) (ys.drop k.length) = some b ∧ r = (a && b)
 | [], ks, xs, ys, r, h => ⟨true, r, by simp [eqDs], by simpa using h, by simp⟩
 | c :: k, ks, [], ys, r, h => by simp [eqDs] at h
 | c :: k, ks, _ :: _, [], r, h => by simp [eqDs] at h
 | c :: k, ks, x :: xs, y :: ys, r, h => by
  simp only [List.cons_append, eqDs] at h
  split at h
  ·rename_i a b h1 h2
   obtain ⟨a', b', e1, e2, e3⟩ := eqDs_append h2
   simp only [Qa] at h
   refine ⟨a && a', b', ?_, ?_, ?_⟩
   ·simp [eqDs, h1, e1]
   ·simpa using e2
   ·rw [← h, e3, Bool.and_assoc]
  ·cases h
theorem eqDs_true : ∀ {ks : List CK} {xs ys : List D}, eqDs ks xs ys = some true → xs = ys
 | [], [], [], _ => rfl
 | k :: ks, x :: xs, y :: ys, h => by
  simp only [eqDs] at h
  split at h
  ·rename_i a b h1 h2
   simp only [Qa, Qi] at h
   obtain ⟨rfl, rfl⟩ := h
   have := eqDs_true h2
   subst this
   congr 1
   unfold eqD at h1
   split at h1
   ·split at h1
    ·rename_i e; simp only [Qa, beq_iff_eq] at h1; rw [e, h1]
    ·cases h1
   ·simp only [Qa, beq_iff_eq] at h1; rw [h1]
   ·simp only [Qa, beq_iff_eq] at h1; rw [h1]
   ·cases h1
  ·cases h
 | [], _ :: _, _, h => by simp [eqDs] at h
 | [], [], _ :: _, h => by simp [eqDs] at h
 | _ :: _, [], _, h => by simp [eqDs] at h
 | _ :: _, _ :: _, [], h => by simp [eqDs] at h
section
variable {P : Program} {tab : Tab} {o : Oper}
theorem flatK_ok {f : Nat} {t : TypeId} {ks : List CK} (h : flatK P f t = some ks) : okVar P t ∧ ks.length = P.cellsOf t := by
 cases f with
 | zero => simp [flatK] at h
 | succ f =>
  unfold flatK at h
  cases hu : P.underlying t with
  | none => simp [hu] at h
  | some kd =>
   have hs : (P.underlying t).isSome = true := by simp [hu]
   cases kd <;> simp only [hu] at h
   case bool =>
    split at h <;> simp_all [okVar]
    subst h; rfl
   case int k =>
    split at h <;> simp_all [okVar]
    subst h; rfl
   case string =>
    split at h <;> simp_all [okVar]
    subst h; rfl
   case struct fs =>
    split at h
    ·cases h
    ·split at h
     ·split at h
      ·rename_i hc; simp only [Qa] at h; subst h
       exact ⟨⟨hc.2, .inl (by simp [isAggT, hu]), by simp [hu]⟩, hc.1⟩
      ·cases h
     ·cases h
   case array n e =>
    split at h
    ·split at h
     ·rename_i ks' _ hc; simp only [Qa] at h; subst h
      refine ⟨⟨hc.2.2, .inl (by simp [isAggT, hu]), by simp [hu]⟩, ?_⟩
      rw [flatten_length (sz := P.cellsOf e) (fun r hr => by rw [(List.mem_replicate.1 hr).2, hc.1])]
      rw [List.length_replicate, hc.2.1]
     ·cases h
    ·cases h
   all_goals (cases h)
theorem one_rel {im : Nat → Nat → Prop} {w : World} {x : D} {us : List Value} (h : DList tab im w [x] us) : ∃ u, us = [u] ∧ DRel tab im w x u := by
 cases us with
 | nil => simp only [DList] at h
 | cons u us =>
  cases us with
  | nil => simp only [DList] at h; exact ⟨u, rfl, h.1⟩
  | cons => simp only [DList] at h; exact h.2.elim
theorem eqDs_one {c : CK} {xs ys : List D} {r : Bool} (h : eqDs [c] xs ys = some r) : ∃ x y, xs = [x] ∧ ys = [y] ∧ eqD c x y = some r := by
 have hl := eqDs_length h
 match xs, ys, h, hl with
 | [x], [y], h, _ =>
  refine ⟨x, y, rfl, rfl, ?_⟩
  simp only [eqDs] at h
  split at h
  ·rename_i a b h1 h2; cases h2; simp only [Qa, Bool.and_true] at h; rw [h1, h]
  ·cases h
 | [], _, _, hl => simp at hl
 | _ :: _ :: _, _, _, hl => simp at hl
 | [_], [], _, hl => simp at hl
 | [_], _ :: _ :: _, _, hl => simp at hl
theorem bytes_beq {s t : ByteArray} : (s == t) = (s.data.toList == t.data.toList) := by
 obtain ⟨⟨x⟩⟩ := s
 obtain ⟨⟨y⟩⟩ := t
 show ((⟨x⟩ : Array UInt8) == ⟨y⟩) = (x == y)
 simp
theorem eq_flat {im : Nat → Nat → Prop} {w : World} : ∀ (f : Nat) (t : TypeId) (ks : List CK), flatK P f t = some ks → ∀ (d : Nat), f ≤ d → ∀ (us vs : List Value) (xs ys : List D) (r : Bool), DList tab im w xs us → DList tab im w ys vs → eqDs ks xs ys = some r →
  (Op.equalIn d t (varOf (isAggT P t) us) (varOf (isAggT P t) vs)).run P w = .ok r w
 | 0, t, ks, h, d, hd, us, vs, xs, ys, r, h1, h2, h3 => by simp [flatK] at h
 | f + 1, t, ks, h, 0, hd, us, vs, xs, ys, r, h1, h2, h3 => by omega
 | f + 1, t, ks, h, d + 1, hd, us, vs, xs, ys, r, h1, h2, h3 => by
  have ih := eq_flat (im := im) (w := w) f
  have hd' : f ≤ d := by omega
  have hpart : ∀ (e : TypeId) (k : List CK) (off : Nat) (a : Bool), flatK P f e = some k → off + P.cellsOf e ≤ us.length → off + P.cellsOf e ≤ vs.length → eqDs k ((xs.drop off).take k.length) ((ys.drop off).take k.length) = some a →
    ∃ p q, (part e us.toArray off).run P w = .ok p w ∧ (part e vs.toArray off).run P w = .ok q w ∧ (Op.equalIn d e p q).run P w = .ok a w := by
   intro e k off a hk hu hv ha
   obtain ⟨hok, hkl⟩ := flatK_ok hk
   have p1 := run_part (P := P) (w := w) hok (cs := us.toArray) (off := off) (by simpa using hu)
   have p2 := run_part (P := P) (w := w) hok (cs := vs.toArray) (off := off) (by simpa using hv)
   refine ⟨_, _, p1, p2, ih e k hk d hd' _ _ _ _ a ((h1.drop off).take _) ((h2.drop off).take _) ?_⟩
   rw [← hkl]; exact ha
  have hxl := h1.length
  have hyl := h2.length
  have hel := eqDs_length h3
  obtain ⟨hok, hkl⟩ := flatK_ok h
  unfold flatK at h
  cases hu : P.underlying t with
  | none => simp [hu] at h
  | some kd =>
   cases kd <;> simp only [hu] at h
   case bool =>
    split at h
    ·simp only [Qa] at h; subst h
     obtain ⟨x, y, rfl, rfl, h4⟩ := eqDs_one h3
     obtain ⟨u, rfl, m1⟩ := one_rel h1
     obtain ⟨v, rfl, m2⟩ := one_rel h2
     cases x <;> cases y <;> simp [eqD] at h4
     simp only [DRel] at m1 m2
     subst m1; subst m2
     simp [varOf, isAggT, hu, Op.equalIn, run_underlying hu, h4]
    ·cases h
   case int k =>
    split at h
    ·simp only [Qa] at h; subst h
     obtain ⟨x, y, rfl, rfl, h4⟩ := eqDs_one h3
     obtain ⟨u, rfl, m1⟩ := one_rel h1
     obtain ⟨v, rfl, m2⟩ := one_rel h2
     cases x <;> cases y <;> simp [eqD] at h4
     simp only [DRel] at m1 m2
     subst m1; subst m2
     obtain ⟨h4, h5⟩ := h4
     simp [varOf, isAggT, hu, Op.equalIn, run_underlying hu, h4, h5]
    ·cases h
   case string =>
    split at h
    ·simp only [Qa] at h; subst h
     obtain ⟨x, y, rfl, rfl, h4⟩ := eqDs_one h3
     obtain ⟨u, rfl, m1⟩ := one_rel h1
     obtain ⟨v, rfl, m2⟩ := one_rel h2
     cases x <;> cases y <;> simp [eqD] at h4
     simp only [DRel] at m1 m2
     obtain ⟨s1, rfl, rfl⟩ := m1
     obtain ⟨s2, rfl, rfl⟩ := m2
     have : (Op.equalIn (d + 1) t (.string s1) (.string s2)).run P w = .ok (s1 == s2) w := by simp [Op.equalIn, run_underlying hu]
     rw [bytes_beq] at this
     simp only [varOf, isAggT, hu, Qm, if_false, List.headD_cons, this, ← h4]
    ·cases h
   case struct fs =>
    have hagg : isAggT P t = true := by simp [isAggT, hu]
    simp only [varOf, hagg, if_true]
    split at h
    ·cases h
    ·rename_i hheld
     split at h
     ·rename_i ks' hfs
      split at h
      ·simp only [Qa] at h; subst h
       have hfo : P.fieldsOf t = fs := by simp [Program.fieldsOf, hu]
       rw [run_equalIn_struct w d t us.toArray vs.toArray (by rw [hfo]; exact hu) (by simpa using hheld), hfo]
       have fields : ∀ (L : List Field) (off : Nat) (ks : List CK) (r : Bool), flatFs P (flatK P f) L off = some ks → eqDs ks (xs.drop off) (ys.drop off) = some r → (Op.eqFields d us.toArray vs.toArray L).run P w = .ok r w := by
        intro L
        induction L with
        | nil =>
         intro off ks r k1 k2
         simp only [flatFs, Qa] at k1
         subst k1
         have := eqDs_length k2
         have e1 : xs.drop off = [] := List.length_eq_zero_iff.1 this.1
         have e2 : ys.drop off = [] := List.length_eq_zero_iff.1 this.2
         rw [e1, e2] at k2
         simp only [eqDs, Qa] at k2
         subst k2
         simp [Op.eqFields]
        | cons fl L ihL =>
         intro off ks r k1 k2
         simp only [flatFs] at k1
         split at k1
         ·rename_i hoff
          split at k1
          ·rename_i k ks' hk hks
           split at k1
           ·rename_i hkl'
            simp only [Qa] at k1
            subst k1
            obtain ⟨a, b, m1, m2, rfl⟩ := eqDs_append k2
            have hlen := eqDs_length k2
            simp only [List.length_drop, Qg] at hlen
            obtain ⟨hok', _⟩ := flatK_ok hk
            have hpos : P.cellsOf fl.type ≠ 0 := hok'.1
            obtain ⟨p, q, n1, n2, n3⟩ := hpart fl.type k off a hk (by omega) (by omega) m1
            simp only [List.drop_drop, hkl'] at m2
            have rest := ihL (off + P.cellsOf fl.type) ks' b hks m2
            simp only [Op.eqFields, hoff.2, ne_eq, not_false_eq_true, if_true, hoff.1, Sem.run_bind, n1, n2, n3, Result.andThen_ok]
            cases a
            ·simp
            ·simpa using rest
           ·cases k1
          ·cases k1
         ·cases k1
       exact fields fs.toList 0 ks' r hfs (by simpa using h3)
      ·cases h
     ·cases h
   case array n e =>
    have hagg : isAggT P t = true := by simp [isAggT, hu]
    simp only [varOf, hagg, if_true]
    split at h
    ·rename_i k hk
     split at h
     ·rename_i hc
      simp only [Qa] at h; subst h
      obtain ⟨hok', hkl'⟩ := flatK_ok hk
      obtain ⟨i, hi, _⟩ := info_of hok'.1
      rw [run_equalIn_array w d us.toArray vs.toArray hu hi, List.range_eq_range']
      have items : ∀ (m j : Nat) (r : Bool), eqDs (List.replicate m k).flatten (xs.drop (j * P.cellsOf e)) (ys.drop (j * P.cellsOf e)) = some r → (Op.eqItems d e (P.cellsOf e) us.toArray vs.toArray (List.range' j m)).run P w = .ok r w := by
       intro m
       induction m with
       | zero =>
        intro j r k2
        simp only [List.replicate_zero, List.flatten_nil] at k2
        have := eqDs_length k2
        have e1 : xs.drop (j * P.cellsOf e) = [] := List.length_eq_zero_iff.1 this.1
        have e2 : ys.drop (j * P.cellsOf e) = [] := List.length_eq_zero_iff.1 this.2
        rw [e1, e2] at k2
        simp only [eqDs, Qa] at k2
        subst k2
        simp [Op.eqItems]
       | succ m ihm =>
        intro j r k2
        simp only [List.replicate_succ, List.flatten_cons] at k2
        obtain ⟨a, b, m1, m2, rfl⟩ := eqDs_append k2
        have hlen := eqDs_length k2
        simp only [List.length_drop, Qg] at hlen
        have hpos : P.cellsOf e ≠ 0 := hok'.1
        obtain ⟨p, q, n1, n2, n3⟩ := hpart e k (j * P.cellsOf e) a hk (by omega) (by omega) m1
        simp only [List.drop_drop, hc.1] at m2
        have rest := ihm (j + 1) b (by rwa [Nat.add_mul, Nat.one_mul])
        rw [List.range'_succ]
        simp only [Op.eqItems, Sem.run_bind, n1, n2, n3, Result.andThen_ok]
        cases a
        ·simp
        ·simpa using rest
      exact items n 0 r (by simpa using h3)
     ·cases h
    ·cases h
   all_goals (cases h)
theorem ok_eqa {op : BinOp} {t : TypeId} {x y : Operand} {u : TypeId} {ks : List CK} {cop : Cop} (ho : o.op = .binOp op t x y u) (hop : isEqOp op = true) (hagg : isAggT P t = true) (hg : P.eqGuardType P.depth t = false) (hk : flatK P 20 t = some ks)
  (hc : bi2 P tab (some t) (some t) x y (.eqa ks (op == .neq)) = some cop) : OkOp P tab o cop := by
 obtain ⟨a', b', ha, hb, rfl⟩ := bi2_rel hc
 intro nt g get obj a w hR fresh r hf h K Q hK
 have hx := compA_rel (w := w) ha hR.tmp
 have hy := compA_rel (w := w) hb hR.tmp
 simp only [Cop.args, Qb, Qc] at h hK
 generalize evA get a' = xv at h hx hK
 generalize evA get b' = yv at h hy hK
 cases xv with
 | agg xs =>
  cases yv with
  | agg ys =>
   simp only [act] at h
   split at h
   ·rename_i dx dy h1 h2
    split at h
    ·rename_i rr hrr
     simp only [Qa] at h
     subst h
     simp only [VRel] at hx hy
     obtain ⟨us, e1, c1⟩ := hx
     obtain ⟨vs, e2, c2⟩ := hy
     have he := eq_flat (P := P) (w := w) 20 t ks hk 10000 (by omega) us vs dx dy rr (toDs_rel h1 c1.toV) (toDs_rel h2 c2.toV) hrr
     simp only [varOf, hagg, if_true] at he
     have he : (Op.equal t (.agg us.toArray) (.agg vs.toArray)).run P w = .ok rr w := he
     have hgd : (eqGuard op t x y (.agg us.toArray) (.agg vs.toArray)).run P w = .ok () w := by
      cases op <;> simp [isEqOp] at hop <;> simp [eqGuard, hg]
     refine wp_value (v := .bool (if op == .neq then !rr else rr)) (w' := w) ?_ (hK g _ _ (.refl hR.heap) (by simp only [VRel, DRel]))
     simp only [execOp, ho, e1, e2, hgd, Sem.run_bind, Result.andThen_ok]
     cases op <;> simp [isEqOp] at hop <;> simp [Go.binOp, he] <;> rfl
    ·cases h
   ·cases h
  | _ => simp [act] at h
 | _ => simp [act] at h
end
open Go
open Go.RowKit (Below)
section
variable {P : Program} {tab : Tab} {o : Oper}
theorem check_flat {w : World} (em : Bool) : ∀ (f : Nat) (t : TypeId) (ks : List CK), flatK P f t = some ks → ∀ (d : Nat), f ≤ d → ∀ (us : List Value), us.length = P.cellsOf t → (Instr.checkKey em d t (varOf (isAggT P t) us)).run P w = .ok () w
 | 0, t, ks, h, d, hd, us, hl => by simp [flatK] at h
 | f + 1, t, ks, h, 0, hd, us, hl => by omega
 | f + 1, t, ks, h, d + 1, hd, us, hl => by
  have ih := check_flat (w := w) em f
  have hd' : f ≤ d := by omega
  have hpart : ∀ (e : TypeId) (k : List CK) (off : Nat), flatK P f e = some k → off + P.cellsOf e ≤ us.length →
    ∃ p, (part e us.toArray off).run P w = .ok p w ∧ (Instr.checkKey em d e p).run P w = .ok () w := by
   intro e k off hk hu
   obtain ⟨hok, hkl⟩ := flatK_ok hk
   have p1 := run_part (P := P) (w := w) hok (cs := us.toArray) (off := off) (by simpa using hu)
   exact ⟨_, p1, ih e k hk d hd' _ (by simp; omega)⟩
  obtain ⟨hok, hkl⟩ := flatK_ok h
  unfold flatK at h
  cases hu : P.underlying t with
  | none => simp [hu] at h
  | some kd =>
   cases kd <;> simp only [hu] at h
   case bool => simp [varOf, isAggT, hu, Instr.checkKey, run_underlying hu]
   case int k => simp [varOf, isAggT, hu, Instr.checkKey, run_underlying hu]
   case string => simp [varOf, isAggT, hu, Instr.checkKey, run_underlying hu]
   case struct fs =>
    have hagg : isAggT P t = true := by simp [isAggT, hu]
    simp only [varOf, hagg, if_true]
    split at h
    ·cases h
    ·split at h
     ·rename_i ks' hfs
      split at h
      ·rename_i hlen
       simp only [Qa] at h; subst h
       rw [Instr.checkKey]
       simp only [Sem.run_bind, run_underlying hu, Result.andThen_ok]
       rw [← Array.forIn_toList]
       obtain ⟨off, k1, k2⟩ : ∃ off, flatFs P (flatK P f) fs.toList off = some ks' ∧ off + ks'.length ≤ us.length := ⟨0, hfs, by omega⟩
       clear hfs hlen hkl
       generalize fs.toList = L at k1
       induction L generalizing off ks' with
       | nil => simp
       | cons fl L ihL =>
        simp only [flatFs] at k1
        split at k1
        ·rename_i hoff
         split at k1
         ·rename_i k ks2 hk hks
          split at k1
          ·rename_i hkl'
           simp only [Qa] at k1
           subst k1
           simp only [Qg] at k2
           obtain ⟨p, n1, n2⟩ := hpart fl.type k off hk (by omega)
           have rest := ihL ks2 (off + P.cellsOf fl.type) (by omega) hks
           simp only [List.forIn_cons, Sem.run_bind, hoff.2, ne_eq, not_false_eq_true, if_true, hoff.1, Result.andThen_ok, n1, n2, Sem.run_pure]
           exact rest
          ·cases k1
         ·cases k1
        ·cases k1
      ·cases h
     ·cases h
   case array n e =>
    have hagg : isAggT P t = true := by simp [isAggT, hu]
    simp only [varOf, hagg, if_true]
    split at h
    ·rename_i k hk
     split at h
     ·rename_i hc
      simp only [Qa] at h; subst h
      obtain ⟨hok', hkl'⟩ := flatK_ok hk
      obtain ⟨i, hi, _⟩ := info_of hok'.1
      rw [Instr.checkKey]
      simp only [Sem.run_bind, run_underlying hu, Result.andThen_ok]
      simp only [Std.Legacy.Range.forIn_eq_forIn_range', Std.Legacy.Range.size, Nat.sub_zero, Nat.add_one_sub_one, Nat.div_one]
      have hall : ∀ i ∈ List.range' 0 n, (i + 1) * P.cellsOf e ≤ us.length := fun i hi => by
       rw [List.mem_range'_1] at hi
       have : (i + 1) * P.cellsOf e ≤ n * P.cellsOf e := Nat.mul_le_mul_right _ (by omega)
       omega
      generalize List.range' 0 n = L at hall
      induction L with
      | nil => simp
      | cons j L ihL =>
       have h1 := hall j (by simp)
       rw [Nat.add_mul, Nat.one_mul] at h1
       obtain ⟨p, n1, n2⟩ := hpart e k (j * P.cellsOf e) hk (by omega)
       simp only [List.forIn_cons, Sem.run_bind, run_sizeOf w hi, Result.andThen_ok, n1, n2, Sem.run_pure]
       exact ihL fun i hi => hall i (by simp [hi])
     ·cases h
    ·cases h
   all_goals (cases h)
theorem key_var {k : TypeId} {ks : List CK} (h : keyK P k = some ks) {us : List Value} (hl : us.length = ks.length) {v : Value} (hv : v.cells.toList = us) (h1 : ∀ u, us = [u] → us = [v]) : v = varOf (isAggT P k) us := by
 unfold keyK at h
 split at h
 ·cases h
 ·rename_i hn
  obtain ⟨⟨m1, m2, m3⟩, hkl⟩ := flatK_ok h
  cases ha : isAggT P k with
  | false =>
   simp only [ha, Qm, false_or] at m2
   match us, hl with
   | [u], _ =>
    have := h1 u rfl
    simp only [List.cons.injEq, and_true] at this
    simp [varOf, this]
   | [], hl => simp at hl; omega
   | _ :: _ :: _, hl => simp at hl; omega
  | true =>
   have : P.cellsOf k ≠ 1 := fun e => hn ⟨ha, e⟩
   cases v with
   | agg cs => simp only [Value.cells] at hv; subst hv; simp [varOf]
   | _ => simp only [Value.cells] at hv; subst hv; simp at hl; omega
theorem sameBits_flat {im : Nat → Nat → Prop} {w : World} : ∀ {ks : List CK} {xs : List D} {us : List Value}, eqDs ks xs xs = some true → DList tab im w xs us → ∀ u ∈ us, ∀ n, Instr.sameBits n u u = true
 | [], [], us, _, h => by cases us with | nil => intro u hu; simp at hu | cons => simp only [DList] at h
 | k :: ks, x :: xs, us, h, hd => by
  cases us with
  | nil => simp only [DList] at hd
  | cons u us =>
   simp only [DList] at hd
   simp only [eqDs] at h
   split at h
   ·rename_i a b h1 h2
    simp only [Qa, Qi] at h
    obtain ⟨rfl, rfl⟩ := h
    intro v hv n
    rcases List.mem_cons.1 hv with rfl | hv
    ·have hd1 := hd.1
     cases x <;> cases k <;> simp [eqD] at h1
     ·simp only [DRel] at hd1; subst hd1; cases n <;> simp [Instr.sameBits]
     ·simp only [DRel] at hd1; subst hd1; cases n <;> simp [Instr.sameBits]
     ·simp only [DRel] at hd1
      obtain ⟨s, rfl, _⟩ := hd1
      have : (s == s) = true := by rw [bytes_beq]; simp
      cases n <;> simp [Instr.sameBits, this]
    ·exact sameBits_flat h2 hd.2 v hv n
   ·cases h
 | [], _ :: _, _, h, _ => by simp [eqDs] at h
 | _ :: _, [], _, h, _ => by simp [eqDs] at h
theorem DList_same {im : Nat → Nat → Prop} {w : World} : ∀ {ks : List CK} {xs : List D} {us vs : List Value}, eqDs ks xs xs = some true → DList tab im w xs us → DList tab im w xs vs → us = vs
 | [], [], us, vs, _, h1, h2 => by
  cases us with
  | cons => simp only [DList] at h1
  | nil => cases vs with | cons => simp only [DList] at h2 | nil => rfl
 | k :: ks, x :: xs, us, vs, h, h1, h2 => by
  cases us with
  | nil => simp only [DList] at h1
  | cons u us =>
   cases vs with
   | nil => simp only [DList] at h2
   | cons v vs =>
    simp only [DList] at h1 h2
    simp only [eqDs] at h
    split at h
    ·rename_i a b e1 e2
     simp only [Qa, Qi] at h
     obtain ⟨rfl, rfl⟩ := h
     have := DList_same e2 h1.2 h2.2
     subst this
     congr 1
     have d1 := h1.1
     have d2 := h2.1
     cases x <;> cases k <;> simp [eqD] at e1
     ·simp only [DRel] at d1 d2; rw [d1, d2]
     ·simp only [DRel] at d1 d2; rw [d1, d2]
     ·simp only [DRel] at d1 d2
      obtain ⟨s, rfl, m1⟩ := d1
      obtain ⟨t, rfl, m2⟩ := d2
      congr 1
      exact ByteArray.ext (Array.ext' (by rw [m1, m2]))
    ·cases h
 | [], _ :: _, _, _, h, _, _ => by simp [eqDs] at h
 | _ :: _, [], _, _, h, _, _ => by simp [eqDs] at h
theorem EList.at_ {g : Gh} {obj : Nat → Option Obj} {w : World} : ∀ {kvs : List (List D × V)} {es : List MapEntry}, EList tab g obj w kvs es → es.length = kvs.length
 | [], [], _ => rfl
 | (k, x) :: r, e :: es, h => by simp only [EList] at h; simp [EList.at_ h.2.2]
 | [], _ :: _, h => by simp only [EList] at h
 | (_, _) :: _, [], h => by simp only [EList] at h
theorem find_asking {g : Gh} {obj : Nat → Option Obj} {w : World} {kt : TypeId} {ks : List CK} (hk : keyK P kt = some ks) {kd : List D} {us : List Value} (hd : DList tab g.im w kd us) : ∀ (kvs : List (List D × V)) (es : List MapEntry) (i n : Nat), EList tab g obj w kvs es → mapAt ks kd kvs = some n →
  (Instr.findAsking kt (varOf (isAggT P kt) us) es i).run P w = .ok ((es[n]?).map fun e => (i + n, e.val)) w ∧ n ≤ kvs.length ∧ (n < kvs.length → ∃ e, es[n]? = some e ∧ e.key = varOf (isAggT P kt) us ∧ ∃ q, kvs[n]? = some q ∧ q.1 = kd)
 | [], [], i, n, h, hm => by
  simp only [mapAt, Qa] at hm
  subst hm
  exact ⟨by simp [Instr.findAsking], Nat.le_refl _, fun h => absurd h (Nat.lt_irrefl _)⟩
 | [], _ :: _, _, _, h, _ => by simp only [EList] at h
 | (_, _) :: _, [], _, _, h, _ => by simp only [EList] at h
 | (k, x) :: r, e :: es, i, n, h, hm => by
  simp only [EList] at h
  obtain ⟨⟨kus, h1, h2, h3⟩, h4, h5⟩ := h
  have hflat : flatK P 20 kt = some ks := by
   unfold keyK at hk; split at hk
   ·cases hk
   ·exact hk
  have hkl := h1.length
  simp only [mapAt] at hm
  have var : ∀ b, eqDs ks kd k = some b → e.key = varOf (isAggT P kt) kus := fun b hb => by
   have := eqDs_length hb
   refine key_var hk (by omega) h2 (fun u hu => ?_)
   have : k.length = 1 := by rw [← hkl, hu]; rfl
   obtain ⟨c, rfl⟩ := List.length_eq_one_iff.1 this
   exact h3 c rfl
  split at hm
  ·rename_i heq
   simp only [Qa] at hm
   subst hm
   have := eqDs_true heq
   subst this
   have hus := DList_same heq hd h1
   subst hus
   have hv := var _ heq
   have hrun := eq_flat (P := P) (w := w) 20 kt ks hflat 10000 (by omega) us us kd kd true hd h1 heq
   have hrun : (Op.equal kt (varOf (isAggT P kt) us) e.key).run P w = .ok true w := by rw [hv]; exact hrun
   exact ⟨by simp [Instr.findAsking, hrun], Nat.zero_le _, fun _ => ⟨e, rfl, hv, (kd, x), rfl, rfl⟩⟩
  ·rename_i heq
   split at hm
   ·rename_i m hm'
    simp only [Qa] at hm
    subst hm
    have hv := var _ heq
    have hrun := eq_flat (P := P) (w := w) 20 kt ks hflat 10000 (by omega) us kus kd k false hd h1 heq
    have hrun : (Op.equal kt (varOf (isAggT P kt) us) e.key).run P w = .ok false w := by rw [hv]; exact hrun
    obtain ⟨m1, m2, m3⟩ := find_asking hk hd r es (i + 1) m h5 hm'
    refine ⟨?_, by simp; omega, fun hl => ?_⟩
    ·simp only [Instr.findAsking, Sem.run_bind, hrun, Result.andThen_ok, Qm, if_false, m1, List.getElem?_cons_succ]
     congr 2
     funext e'
     congr 1
     omega
    ·obtain ⟨e', n1, n2, n3⟩ := m3 (by simpa using hl)
     exact ⟨e', by simpa using n1, n2, by simpa using n3⟩
   ·cases hm
  ·cases hm
theorem findNow_asking {w : World} {kt : TypeId} {kind : TypeDesc} (hu : P.underlying kt = some kind) (k : Value) : ∀ (es : List MapEntry) (i : Nat) (r : Option (Nat × Value)), Instr.findNow kind k es i = some r → ∀ q, (Instr.findAsking kt k es i).run P w = .ok q w → r = q
 | [], i, r, h, q, hq => by
  simp only [Instr.findNow, Qa] at h
  simp [Instr.findAsking] at hq
  rw [← h, hq]
 | e :: es, i, r, h, q, hq => by
  have same : ∀ b, Instr.sameNow kind k e.key = some b → (Op.equal kt k e.key).run P w = .ok b w := by
   intro b hb
   refine (?_ : ∀ d, (Op.equalIn (d + 1) kt k e.key).run P w = .ok b w) 9999
   intro d
   generalize e.key = ek at hb
   cases kind <;> cases k <;> cases ek <;> simp [Instr.sameNow] at hb
   ·subst hb; simp [Op.equalIn, run_underlying hu]
   ·obtain ⟨rfl, rfl⟩ := hb; simp [Op.equalIn, run_underlying hu]
   ·subst hb; simp [Op.equalIn, run_underlying hu]
  simp only [Instr.findNow] at h
  cases hs : Instr.sameNow kind k e.key with
  | none => simp [hs] at h
  | some b =>
   have := same b hs
   simp only [Instr.findAsking, Sem.run_bind, this, Result.andThen_ok] at hq
   cases b with
   | true => simp [hs] at h; simp at hq; rw [← h, hq]
   | false =>
    simp [hs] at h
    exact findNow_asking hu k es (i + 1) r h q (by simpa using hq)
theorem find_sound {g : Gh} {obj : Nat → Option Obj} {w : World} {kt : TypeId} {ks : List CK} (hk : keyK P kt = some ks) {kd : List D} {us : List Value} (hd : DList tab g.im w kd us) {kvs : List (List D × V)} {es : List MapEntry} {n : Nat} (h : EList tab g obj w kvs es) (hm : mapAt ks kd kvs = some n) :
  (Instr.findKey kt (varOf (isAggT P kt) us) es).run P w = .ok ((es[n]?).map fun e => (n, e.val)) w ∧ n ≤ kvs.length ∧ (n < kvs.length → ∃ e, es[n]? = some e ∧ e.key = varOf (isAggT P kt) us ∧ ∃ q, kvs[n]? = some q ∧ q.1 = kd) := by
 obtain ⟨h1, h2, h3⟩ := find_asking hk hd kvs es 0 n h hm
 refine ⟨?_, h2, h3⟩
 have hflat : flatK P 20 kt = some ks := by
  unfold keyK at hk; split at hk
  ·cases hk
  ·exact hk
 obtain ⟨⟨_, _, hs⟩, _⟩ := flatK_ok hflat
 obtain ⟨kind, hu⟩ := Option.isSome_iff_exists.1 hs
 unfold Instr.findKey
 simp only [Sem.run_bind, run_underlying hu, Result.andThen_ok]
 simp only [Nat.zero_add] at h1
 cases hf : Instr.findNow kind (varOf (isAggT P kt) us) es 0 with
 | none => exact h1
 | some r => simp only [Sem.run_pure]; rw [findNow_asking hu _ es 0 r hf _ h1]
theorem eqD_symm {c : CK} {x y : D} {b : Bool} (h : eqD c x y = some b) : eqD c y x = some b := by
 cases c <;> cases x <;> cases y <;> simp only [eqD] at h ⊢ <;> try (cases h; done)
 ·rw [← h]; congr 1; exact BEq.comm
 ·split at h
  ·rename_i e; subst e
   first | (rw [← h]; congr 1; exact BEq.comm) | (rw [if_pos rfl, ← h]; congr 1; exact BEq.comm)
  ·cases h
 ·rw [← h]; congr 1; exact BEq.comm
theorem eqDs_symm : ∀ {ks : List CK} {xs ys : List D} {b : Bool}, eqDs ks xs ys = some b → eqDs ks ys xs = some b
 | [], [], [], b, h => h
 | k :: ks, x :: xs, y :: ys, b, h => by
  simp only [eqDs] at h ⊢
  split at h
  ·rename_i a c h1 h2
   rw [eqD_symm h1, eqDs_symm h2]; exact h
  ·cases h
 | [], _ :: _, _, _, h => by simp [eqDs] at h
 | [], [], _ :: _, _, h => by simp [eqDs] at h
 | _ :: _, [], _, _, h => by simp [eqDs] at h
 | _ :: _, _ :: _, [], _, h => by simp [eqDs] at h
theorem eqD_self {c : CK} {x : D} {b : Bool} (h : eqD c x x = some b) : b = true := by
 cases c <;> cases x <;> simp [eqD] at h <;> first | exact h | exact h.symm
theorem eqDs_self : ∀ {ks : List CK} {xs : List D} {b : Bool}, eqDs ks xs xs = some b → b = true
 | [], [], b, h => by simp only [eqDs, Qa] at h; exact h.symm
 | k :: ks, x :: xs, b, h => by
  simp only [eqDs] at h
  split at h
  ·rename_i a c h1 h2
   have e1 := eqD_self h1
   have e2 := eqDs_self h2
   subst e1; subst e2
   simp only [Bool.and_self, Qa] at h; exact h.symm
  ·cases h
 | [], _ :: _, _, h => by simp [eqDs] at h
 | _ :: _, [], _, h => by simp [eqDs] at h
theorem eqD_trans {c c' : CK} {x y z : D} {a b : Bool} (h : eqD c x y = some a) (h' : eqD c' y z = some b) : ∃ r, eqD c x z = some r := by
 cases c <;> cases x <;> cases y <;> simp only [eqD] at h <;> try (cases h; done)
 ·cases c' <;> cases z <;> simp only [eqD] at h' ⊢ <;> try (cases h'; done)
  exact ⟨_, rfl⟩
 ·split at h
  ·rename_i e; subst e
   cases c' <;> cases z <;> simp only [eqD] at h' ⊢ <;> try (cases h'; done)
   split at h'
   ·exact ⟨_, by rename_i e; rw [if_pos e]⟩
   ·cases h'
  ·cases h
 ·cases c' <;> cases z <;> simp only [eqD] at h' ⊢ <;> try (cases h'; done)
  exact ⟨_, rfl⟩
theorem eqDs_trans : ∀ {ks ks' : List CK} {xs ys zs : List D} {a b : Bool}, eqDs ks xs ys = some a → eqDs ks' ys zs = some b → ∃ r, eqDs ks xs zs = some r
 | [], ks', [], [], zs, a, b, _, h' => by
  have := eqDs_length h'
  cases zs with
  | nil => exact ⟨true, rfl⟩
  | cons => simp at this; omega
 | k :: ks, [], x :: xs, y :: ys, zs, a, b, _, h' => by simp [eqDs] at h'
 | k :: ks, k' :: ks', x :: xs, y :: ys, [], a, b, _, h' => by simp [eqDs] at h'
 | k :: ks, k' :: ks', x :: xs, y :: ys, z :: zs, a, b, h, h' => by
  simp only [eqDs] at h h' ⊢
  split at h
  ·rename_i a1 c1 h1 h2
   split at h'
   ·rename_i a2 c2 h3 h4
    obtain ⟨r1, e1⟩ := eqD_trans h1 h3
    obtain ⟨r2, e2⟩ := eqDs_trans h2 h4
    exact ⟨r1 && r2, by rw [e1, e2]⟩
   ·cases h'
  ·cases h
 | [], _, _ :: _, _, _, _, _, h, _ => by simp [eqDs] at h
 | [], _, [], _ :: _, _, _, _, h, _ => by simp [eqDs] at h
 | _ :: _, _, [], _, _, _, _, h, _ => by simp [eqDs] at h
 | _ :: _, _, _ :: _, [], _, _, _, h, _ => by simp [eqDs] at h
theorem mapAt_asked {ks : List CK} {kd : List D} : ∀ {kvs : List (List D × V)} {n : Nat}, Keys (kvs.map (·.1)) → mapAt ks kd kvs = some n → ∀ p ∈ kvs, ∃ b, eqDs ks kd p.1 = some b
 | [], _, _, _ => fun p hp => by simp at hp
 | (k, x) :: r, n, hk, h => by
  simp only [Qb, Keys, List.pairwise_cons] at hk
  intro p hp
  have hd : ∃ b, eqDs ks kd k = some b := by
   simp only [mapAt] at h
   split at h
   ·rename_i e; exact ⟨_, e⟩
   ·rename_i e; exact ⟨_, e⟩
   ·cases h
  rcases List.mem_cons.1 hp with rfl | hp
  ·exact hd
  ·obtain ⟨b, hb⟩ := hd
   obtain ⟨ks', h'⟩ := hk.1 p.1 (List.mem_map.2 ⟨p, hp, rfl⟩)
   exact eqDs_trans hb h'
theorem mapAt_of_asked {ks : List CK} {kd : List D} : ∀ {kv : List (List D × V)}, (∀ p ∈ kv, ∃ b, eqDs ks kd p.1 = some b) →
  ∃ m, mapAt ks kd kv = some m ∧ m ≤ kv.length ∧ (m < kv.length → ∃ x, kv[m]? = some (kd, x)) ∧ (m = kv.length → ∀ p ∈ kv, eqDs ks kd p.1 = some false)
 | [], _ => ⟨0, rfl, Nat.le_refl _, fun h => absurd h (Nat.lt_irrefl _), fun _ p hp => by simp at hp⟩
 | (k, x) :: r, h => by
  obtain ⟨b, hb⟩ := h (k, x) (List.mem_cons_self ..)
  simp only at hb
  cases b with
  | true =>
   have := eqDs_true hb
   subst this
   exact ⟨0, by simp only [mapAt, hb], Nat.zero_le _, fun _ => ⟨x, rfl⟩, fun e => by simp at e⟩
  | false =>
   obtain ⟨m, h1, h2, h3, h4⟩ := mapAt_of_asked (kv := r) (fun p hp => h p (List.mem_cons_of_mem _ hp))
   refine ⟨m + 1, by simp only [mapAt, hb, h1], by simp; omega, fun hl => ?_, fun e p hp => ?_⟩
   ·obtain ⟨x', hx⟩ := h3 (by simpa using hl)
    exact ⟨x', by simpa using hx⟩
   ·rcases List.mem_cons.1 hp with rfl | hp
    ·exact hb
    ·exact h4 (by simpa using e) p hp
theorem Keys.perm {l l' : List (List D)} (hp : l.Perm l') (h : Keys l) : Keys l' := by
 refine (hp.pairwise_iff ?_).1 h
 rintro x y ⟨ks, e⟩
 exact ⟨ks, eqDs_symm e⟩
theorem Keys.one {kvs : List (List D × V)} (h : Keys (kvs.map (·.1))) {k : List D} {x y : V} (hx : (k, x) ∈ kvs) (hy : (k, y) ∈ kvs) : x = y := by
 induction kvs with
 | nil => simp at hx
 | cons p r ih =>
  simp only [Qb, Keys, List.pairwise_cons] at h
  have no : ∀ z, (k, z) ∈ r → p.1 ≠ k := fun z hz e => by
   obtain ⟨ks, hf⟩ := h.1 k (List.mem_map.2 ⟨_, hz, rfl⟩)
   rw [e] at hf
   have := eqDs_self hf
   cases this
  rcases List.mem_cons.1 hx with e | hx' <;> rcases List.mem_cons.1 hy with e' | hy'
  ·rw [← e] at e'; simp only [Qj, true_and] at e'; exact e'.symm
  ·exact absurd (by rw [← e]) (no y hy')
  ·exact absurd (by rw [← e']) (no x hx')
  ·exact ih h.2 hx' hy'
theorem mapAt_perm {ks : List CK} {kd : List D} {kv kvs : List (List D × V)} {n : Nat} (hp : kv.Perm kvs) (hk : Keys (kv.map (·.1))) (h : mapAt ks kd kvs = some n) :
  n ≤ kvs.length ∧ ∃ m, mapAt ks kd kv = some m ∧ m ≤ kv.length ∧ kv[m]? = kvs[n]? ∧ (n < kvs.length ↔ m < kv.length) ∧ (m < kv.length → ∃ x, kv[m]? = some (kd, x)) ∧ (m = kv.length → ∀ p ∈ kv, eqDs ks kd p.1 = some false) := by
 have hk' : Keys (kvs.map (·.1)) := hk.perm (hp.map _)
 have ha := mapAt_asked hk' h
 obtain ⟨n', a1, a2, a3, a4⟩ := mapAt_of_asked ha
 rw [h] at a1
 simp only [Qa] at a1
 subst a1
 obtain ⟨m, b1, b2, b3, b4⟩ := mapAt_of_asked (kv := kv) (fun p hq => ha p (hp.mem_iff.1 hq))
 have yes : ∀ {l : List (List D × V)} {x : V}, (kd, x) ∈ l → (∀ p ∈ l, eqDs ks kd p.1 = some false) → False := fun hm hf => by
  have := eqDs_self (hf _ hm)
  cases this
 have iff : n < kvs.length ↔ m < kv.length := by
  constructor
  ·intro hn
   obtain ⟨x, hx⟩ := a3 hn
   rcases Qn m kv.length with hl | hl
   ·exact hl
   ·exact (yes (hp.mem_iff.2 (List.mem_of_getElem? hx)) (b4 (by omega))).elim
  ·intro hm
   obtain ⟨x, hx⟩ := b3 hm
   rcases Qn n kvs.length with hl | hl
   ·exact hl
   ·exact (yes (hp.mem_iff.1 (List.mem_of_getElem? hx)) (a4 (by omega))).elim
 refine ⟨a2, m, b1, b2, ?_, iff, b3, b4⟩
 by_cases hn : n < kvs.length
 ·obtain ⟨x, hx⟩ := a3 hn
  obtain ⟨y, hy⟩ := b3 (iff.1 hn)
  rw [hx, hy, Keys.one hk (List.mem_of_getElem? hy) (hp.mem_iff.2 (List.mem_of_getElem? hx))]
 ·rw [Qe (by omega), Qe (by have := iff.2; omega)]
theorem cons_erase {α : Type} : ∀ {l : List α} {i : Nat} (h : i < l.length), (l[i] :: l.eraseIdx i).Perm l
 | a :: l, 0, _ => .refl _
 | a :: l, i + 1, h => (List.Perm.swap a (l[i]'(by simpa using h)) (l.eraseIdx i)).trans ((cons_erase (l := l) (i := i) (by simpa using h)).cons a)
 | [], _, h => by simp at h
theorem set_erase {α : Type} (e : α) : ∀ {l : List α} {i : Nat}, i < l.length → (l.set i e).Perm (e :: l.eraseIdx i)
 | a :: l, 0, _ => .refl _
 | a :: l, i + 1, h => ((set_erase e (l := l) (i := i) (by simpa using h)).cons a).trans (List.Perm.swap e a _)
 | [], _, h => by simp at h
theorem perm_erase {kv kvs : List (List D × V)} {n m : Nat} (hp : kv.Perm kvs) (he : kv[m]? = kvs[n]?) (hn : n < kvs.length) (hm : m < kv.length) : (kv.eraseIdx m).Perm (kvs.eraseIdx n) := by
 rw [Qd hm, Qd hn] at he
 simp only [Qa] at he
 have h1 := cons_erase hm
 have h2 := cons_erase hn
 rw [he] at h1
 exact ((h1.trans hp).trans h2.symm).cons_inv
theorem perm_set {kv kvs : List (List D × V)} {n m : Nat} (hp : kv.Perm kvs) (he : kv[m]? = kvs[n]?) (hn : n < kvs.length) (hm : m < kv.length) (e : List D × V) : (kv.set m e).Perm (kvs.set n e) :=
 (set_erase e hm).trans (((perm_erase hp he hn hm).cons e).trans (set_erase e hn).symm)
end
end Ab
