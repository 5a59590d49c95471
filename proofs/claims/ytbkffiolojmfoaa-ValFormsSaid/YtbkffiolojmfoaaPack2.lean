/-
  Each operation of the interpreter is the model's: made slices, functions whose variables are data.
-/
import Derived.Test.YtbkffiolojmfoaaPack1
import Derived.MapKept
import Derived.ChangeKeysEq
set_option linter.unusedSimpArgs false
set_option linter.unusedVariables false
set_option linter.unusedSectionVars false
set_option linter.unnecessarySimpa false
namespace Ab
open Go
open Go.RowKit (Below)
set_option linter.unusedVariables false

section
variable {P : Program} {tab : Tab} {o : Oper}

theorem ok_mks {t e : TypeId} {x y : Operand} {z : V} {zd : List D} {ow : Bool} {cop : Cop} (ho : o.op = .makeSlice t x y) (ht : P.underlying t = some (.slice e)) (hz : zeroOf P e = some z) (hzd : V.toDs z.cells = some zd) (hcz : P.cellsOf e ≠ 0) (hbz : P.bytesOf e ≠ 0) (hl : zd.length = P.cellsOf e)
    (hc : bi2 P tab none none x y (.mks (P.cellsOf e) (P.bytesOf e) zd ow) = some cop) : OkOp P tab o cop := by
  obtain ⟨a', b', ha, hb, rfl⟩ := bi2_rel hc
  intro nt g get obj a w hR fresh r hf h K Q hK
  have hx := compA_rel (w := w) ha hR.tmp
  have hy := compA_rel (w := w) hb hR.tmp
  simp only [Cop.args, List.map_cons, List.map_nil, act] at h hK
  obtain ⟨i, z0, hi, hiz, hcel, hzc, hzl, _⟩ := zeroOf_rel (tab := tab) hz g obj w
  have hsz : i.size = P.cellsOf e := by simp [Program.cellsOf, hi]
  have hby : i.bytes = P.bytesOf e := by simp [Program.bytesOf, hi]
  split at h
  · rename_i k l k' c heq
    injection heq with q1 q2
    injection q2 with q2 _
    rw [q1] at hx
    rw [q2] at hy
    simp only [VRel, DRel] at hx hy
    split at h
    · rename_i hcond
      obtain ⟨h0, hlc, hroom⟩ := hcond
      simp only [roomy, decide_eq_true_eq] at hroom
      have hc1 : c.toNat * 1 ≤ c.toNat * P.bytesOf e := Nat.mul_le_mul_left _ (Nat.one_le_iff_ne_zero.2 hbz)
      have hb48 : (i.bytes : Int) * c ≤ 281474976710656 := by
        rw [hby]
        have : ((c.toNat * P.bytesOf e : Nat) : Int) ≤ 17592186044416 := by omega
        rw [Int.natCast_mul, Int.toNat_of_nonneg (by omega)] at this
        rw [Int.mul_comm]; omega
      have h63 : c ≤ 9223372036854775807 := by omega
      have hrun := run_make (P := P) w t e i z0 ht hi hiz k k' l c h0 hlc hb48 h63
      have hex : (execOp a.eval o).run P w = .ok (.value (.slice (some ⟨w.heap.size, 0, none⟩) l.toNat c.toNat)) (w.alloc (.cells (madeCells z0.cells (c.toNat * i.size)) e)) := by
        simp [execOp, ho, hx, hy, hrun]
      split at h
      · rename_i hl0
        simp only [Option.some.injEq] at h
        subst h
        have hzD : DList tab g.im w zd z0.cells.toList := toDs_rel hzd hzc.toV
        have hzs : z0.cells.size = P.cellsOf e := by rw [← Array.length_toList, hzD.length, hl]
        have hrep : ∀ n, DList tab g.im w (List.replicate n zd).flatten (List.replicate n z0.cells.toList).flatten := fun n => by
          induction n with
          | zero => simp [DList]
          | succ n ih => simp only [List.replicate_succ, List.flatten_cons]; exact hzD.append ih
        have hmade : (madeCells z0.cells (c.toNat * i.size)) = ((List.replicate l.toNat z0.cells.toList).flatten ++ (List.replicate (c.toNat - l.toNat) z0.cells.toList).flatten).toArray := by
          have h1 := zero_rows z0.cells (by omega) c.toNat
          rw [hzs] at h1
          have h2 : (List.replicate c.toNat z0.cells.toList).flatten = (List.replicate l.toNat z0.cells.toList).flatten ++ (List.replicate (c.toNat - l.toNat) z0.cells.toList).flatten := by
            rw [← List.flatten_append, List.replicate_append_replicate]
            congr 2; omega
          rw [← h2, ← h1, madeCells, hsz, hzs]
        obtain ⟨g', k1, k2⟩ := app_new (tab := tab) (e := e) hR.heap w.drawn (id := fresh) (ver := 0) (sz := P.cellsOf e) (.inl hf) (zs := List.replicate l.toNat zd) (us := (List.replicate l.toNat z0.cells.toList).flatten) (rest := (List.replicate (c.toNat - l.toNat) z0.cells.toList).flatten) (cap := c.toNat) (hrep _) (fun r hr => by rw [(List.mem_replicate.1 hr).2]; exact hl) (by rw [List.length_replicate]; omega)
          (by rw [List.length_replicate, ← Array.length_toList] at *; simp [List.length_flatten, hzs])
        rw [← hmade, List.length_replicate] at k2
        rw [← hmade] at k1
        refine wp_value hex (hK g' _ _ ?_ ?_)
        · simpa [resO, Cop.wr, wd] using k1
        · simpa [resO, Cop.wr, wd] using k2
      · split at h
        · rename_i hl0 hlc
          simp only [Option.some.injEq] at h
          subst h; subst hlc
          have hzD : DList tab g.im w zd z0.cells.toList := toDs_rel hzd hzc.toV
          have hzs : z0.cells.size = P.cellsOf e := by rw [← Array.length_toList, hzD.length, hl]
          have hcell : ∀ q, q < l.toNat * P.cellsOf e → (w.alloc (.cells (madeCells z0.cells (l.toNat * i.size)) e)).cell? (cellAt w.heap.size q) = some (z0.cells[q % P.cellsOf e]!) := fun q hq => by
            rw [World.cell?_alloc_new, madeCells, hsz, hzs]
            simp [hq]
          have hpost := post_alloc (tab := tab) hR.heap hf (madeCells z0.cells (l.toNat * i.size)) e (.arr 0 (P.cellsOf e) (List.replicate l.toNat (ofDs zd))) 0 (l.toNat * P.cellsOf e) (fun _ => False) rfl (fun _ _ _ _ h => h) (fun g' hg' hv => by
            refine ⟨fun r hr => by rw [(List.mem_replicate.1 hr).2]; simp [ofDs, hl], by simp, fun q hq => by show ((w.alloc (.cells (madeCells z0.cells (l.toNat * i.size)) e)).cell? (cellAt w.heap.size (0 + q))).isSome = true; rw [Nat.zero_add, hcell q hq]; rfl, fun j r q d hj hq => ?_⟩
            rw [List.getElem?_replicate] at hj
            split at hj
            · rename_i hj'
              simp only [Option.some.injEq] at hj
              subst hj
              obtain ⟨d0, hq0, hd0⟩ : ∃ d0, zd[q]? = some d0 ∧ d = .d d0 := by
                simp only [ofDs, List.getElem?_map, Option.map_eq_some_iff] at hq
                exact hq.imp fun _ k => ⟨k.1, k.2.symm⟩
              subst hd0
              have hql : q < zd.length := by
                rcases Nat.lt_or_ge q zd.length with h | h
                · exact h
                · rw [List.getElem?_eq_none h] at hq0; cases hq0
              have hmul : (j + 1) * P.cellsOf e ≤ l.toNat * P.cellsOf e := Nat.mul_le_mul_right _ hj'
              rw [Nat.add_mul] at hmul
              obtain ⟨u, m1, m2⟩ : ∃ u, z0.cells.toList[q]? = some u ∧ DRel tab g.im w d0 u := by
                have : ∀ (xs : List D) (us : List Value) (q : Nat) (d : D), DList tab g.im w xs us → xs[q]? = some d → ∃ u, us[q]? = some u ∧ DRel tab g.im w d u := by
                  intro xs
                  induction xs with
                  | nil => intro us q d _ h; simp at h
                  | cons x xs ih =>
                    intro us q d h1 h2
                    cases us with
                    | nil => simp only [DList] at h1
                    | cons u us =>
                      simp only [DList] at h1
                      cases q with
                      | zero => simp at h2; subst h2; exact ⟨u, rfl, h1.1⟩
                      | succ q => simpa using ih us q d h1.2 (by simpa using h2)
                exact this zd _ q d0 hzD hq0
              refine ⟨u, ?_, ?_, m2.one⟩
              · show (w.alloc _).cell? (cellAt w.heap.size (0 + j * P.cellsOf e + q)) = some u
                rw [Nat.zero_add, hcell _ (by omega)]
                have : (j * P.cellsOf e + q) % P.cellsOf e = q := by rw [Nat.add_comm, Nat.add_mul_mod_self_right, Nat.mod_eq_of_lt (by omega)]
                rw [this]
                rw [Array.getElem?_toList] at m1
                rw [getElem!_pos z0.cells q (by omega)]
                rw [getElem?_pos z0.cells q (by omega)] at m1
                exact m1
              · exact hv (.d d0) u (by simp only [VRel]; exact m2)
            · cases hj)
          refine wp_value hex (hK _ _ _ (by simpa [resO, Cop.wr] using hpost) ?_)
          simp only [resO, Cop.wr, VRel, updO_same, updP_same, Bool.false_eq_true, if_false]
          refine ⟨⟨_, _, rfl, Nat.le_refl _⟩, 0, P.cellsOf e, _, rfl, Nat.le_refl _, fun _ => ⟨by simp, _, _, rfl, .inr ⟨by simp, by simp⟩⟩⟩
        · cases h
    · cases h
  · cases h

theorem resO_same {obj : Nat → Option Obj} {op : Cop} {ids : List Nat} {v : V} {os : List (Option Obj)} {fresh : Nat} (h : op.wr = false) : resO obj op.wr ids ⟨v, os, none⟩ fresh = obj := by
  simp [resO, h]

/-! ### functions whose variables are data from now on -/

theorem freeze1 {g : Gh} {obj : Nat → Option Obj} {w : World} (hH : HRel tab g obj w) {id : Nat} {cs : List V} {ds : List D} (ho : obj id = some (.box cs)) (hd : V.toDs cs = some ds) :
    ∃ g', Post tab g obj w g' (updO obj id (some (.cst ds))) w ∧ g'.at_ id = g.at_ id ∧ DCells tab g'.im w (g.at_ id).blk (g.at_ id).lo ds := by
  obtain ⟨h1, us, h2, h3⟩ := hH.ob id _ ho
  have hlen := toDs_length hd
  have hul := h2.length
  let im' : Nat → Nat → Prop := fun b q => g.im b q ∨ (b = (g.at_ id).blk ∧ (g.at_ id).lo ≤ q ∧ q < (g.at_ id).lo + (g.at_ id).cnt)
  have hown : ∀ b q, b = (g.at_ id).blk → (g.at_ id).lo ≤ q → q < (g.at_ id).lo + (g.at_ id).cnt → owns g obj id b q := fun b q k1 k2 k3 => by
    unfold owns; rw [ho]; exact ⟨k1, k2, k3⟩
  have hno : ∀ b q, ¬ owns ⟨updP g.at_ id (g.at_ id), im'⟩ (updO obj id (some (.cst ds))) id b q := fun b q h => by
    unfold owns at h; rw [updO_same] at h; exact h
  have hcells : DCells tab im' w (g.at_ id).blk (g.at_ id).lo ds := by
    have hdl : DList tab g.im w ds us := toDs_rel hd h2.toV
    refine DCells.mk (us := us) (DList.mono (w := w) (fun _ _ h => .inl h) (fun _ _ _ => rfl) _ _ hdl) h3 (fun q hq => .inr ⟨rfl, Nat.le_add_right _ _, ?_⟩)
    omega
  obtain ⟨k1, k2, k3⟩ := step1 (w' := w) hH id (.cst ds) (g.at_ id) im' rfl rfl rfl (Nat.le_refl _) (fun _ _ => .refl _) (fun _ _ h => .inl h)
    (fun b q h => by
      rcases h with h | ⟨e1, e2, e3⟩
      · exact .inl h
      · exact .inr (.inl (hown b q e1 e2 e3)))
    (fun b q h => absurd h (hno b q))
    (fun b q h => absurd h (hno b q))
    (.box (.inl ⟨cs, ho⟩) (.inr ⟨ds, rfl⟩) _)
    (fun _ => hcells)
  exact ⟨_, ⟨k1, k2, k3⟩, updP_same _ _ _, hcells⟩

theorem ptrIds_other {v : V} {vs : List V} (h : ∀ id off, v ≠ .ptr id off) : ptrIds (v :: vs) = ptrIds vs := by
  cases v <;> first | rfl | exact absurd rfl (h _ _)

theorem freezeCaps_other {v : V} {vs : List V} {os : List (Option Obj)} (h : ∀ id off, v ≠ .ptr id off) : freezeCaps (v :: vs) os = (match v.toD, freezeCaps vs os with | some d, some (c, os') => some (d :: c, os') | _, _ => none) := by
  cases v <;> first | rfl | exact absurd rfl (h _ _)

theorem freeze_sound : ∀ (vs : List V) (us : List Value) {g : Gh} {obj : Nat → Option Obj} {w : World} (hH : HRel tab g obj w) {c : List D} {os' : List (Option Obj)}, nodupB (ptrIds vs) = true → freezeCaps vs ((ptrIds vs).map obj) = some (c, os') → VList tab g obj w vs us →
    ∃ g', Post tab g obj w g' (updL obj (ptrIds vs) os') w ∧ DList tab g'.im w c us
  | [], us, g, obj, w, hH, c, os', hn, h, hv => by
    cases us with
    | cons => simp only [VList] at hv
    | nil =>
      simp only [freezeCaps, Option.some.injEq, Prod.mk.injEq] at h
      obtain ⟨rfl, rfl⟩ := h
      exact ⟨g, by simpa [ptrIds, updL] using Post.refl hH, by simp only [DList]⟩
  | v :: vs, us, g, obj, w, hH, c, os', hn, h, hv => by
    cases us with
    | nil => simp only [VList] at hv
    | cons u us =>
      simp only [VList] at hv
      by_cases hp : ∃ id off, v = .ptr id off
      · obtain ⟨id, off, rfl⟩ := hp
        simp only [ptrIds, nodupB, Bool.and_eq_true, Bool.not_eq_true', List.map_cons] at hn h
        have hnot : ∀ j ∈ ptrIds vs, j ≠ id := fun j hj e => by
          subst e
          have := List.contains_iff_mem.2 hj
          rw [hn.1] at this
          cases this
        have hmap : ∀ o', (ptrIds vs).map (updO obj id o') = (ptrIds vs).map obj := fun o' => List.map_congr_left fun j hj => updO_ne _ _ (hnot j hj)
        simp only [VRel] at hv
        cases ho : obj id with
        | none => simp [freezeCaps, ho] at h
        | some ob =>
          cases ob with
          | box cs =>
            simp only [freezeCaps, ho] at h
            split at h
            · rename_i ds c1 os1 hds hrest
              simp only [Option.some.injEq, Prod.mk.injEq] at h
              obtain ⟨rfl, rfl⟩ := h
              obtain ⟨g1, p1, p2, p3⟩ := freeze1 hH ho hds
              obtain ⟨g2, q1, q2⟩ := freeze_sound vs us p1.heap hn.2 (by rw [hmap]; exact hrest) (hv.2.of_vals p1.vals)
              refine ⟨g2, p1.trans q1, ?_⟩
              simp only [DList]
              refine ⟨?_, q2⟩
              have : VRel tab g1 (updO obj id (some (.cst ds))) w (.d (.q ds off)) u := by
                simp only [VRel, DRel]
                exact ⟨_, _, hv.1.2, p3⟩
              have := q1.vals _ _ this
              simpa only [VRel] using this
            · cases h
          | cst ds =>
            simp only [freezeCaps, ho] at h
            split at h
            · rename_i c1 os1 hrest
              simp only [Option.some.injEq, Prod.mk.injEq] at h
              obtain ⟨rfl, rfl⟩ := h
              have hu : updO obj id (some (.cst ds)) = obj := by funext j; unfold updO; split <;> simp_all
              obtain ⟨g2, q1, q2⟩ := freeze_sound vs us hH hn.2 hrest hv.2
              refine ⟨g2, by simp only [ptrIds, updL]; rw [hu]; exact q1, ?_⟩
              simp only [DList]
              refine ⟨?_, q2⟩
              have : VRel tab g obj w (.d (.q ds off)) u := by
                simp only [VRel, DRel]
                exact ⟨_, _, hv.1.2, hH.ob id _ ho⟩
              have := q1.vals _ _ this
              simpa only [VRel] using this
            · cases h
          | _ => simp [freezeCaps, ho] at h
      · have hp : ∀ id off, v ≠ .ptr id off := fun id off e => hp ⟨id, off, e⟩
        rw [ptrIds_other hp] at hn h ⊢
        rw [freezeCaps_other hp] at h
        split at h
        · rename_i d c1 os1 hd hrest
          simp only [Option.some.injEq, Prod.mk.injEq] at h
          obtain ⟨rfl, rfl⟩ := h
          obtain ⟨g2, q1, q2⟩ := freeze_sound vs us hH hn hrest hv.2
          refine ⟨g2, q1, ?_⟩
          simp only [DList]
          refine ⟨?_, q2⟩
          have : VRel tab g obj w (.d d) u := by simp only [VRel]; exact toD_rel hd hv.1
          have := q1.vals _ _ this
          simpa only [VRel] using this
        · cases h

theorem ok_mkf_frz {f : FuncId} {first cap : Array Operand} {k : Nat} {as cs : List A} (ho : o.op = .makeFunc (.func f) first cap) (hk : keyOf tab f = some k) (h1 : compAs P tab [] first.toList = some as) (h2 : compAs P tab [] cap.toList = some cs) :
    OkOp P tab o (.mkf k as cs true) := by
  intro nt g get obj a w hR fresh r hf h K Q hK
  have e1 := compAs_rel (w := w) h1 hR.tmp
  have e2 := compAs_rel (w := w) h2 hR.tmp
  simp only [Cop.args, Cop.ids, Cop.wr, act, if_true] at h hK
  split at h
  · rename_i c os' hn hfz
    simp only [Option.some.injEq] at h
    subst h
    · obtain ⟨g', p1, p2⟩ := freeze_sound _ (first.toList.map a.eval ++ cap.toList.map a.eval) hR.heap hn hfz (by rw [List.map_append]; exact e1.append e2)
      refine wp_value (v := .func (.func f) (first.map a.eval) (cap.map a.eval)) (w' := w) ?_ (hK g' _ w (by simpa [resO] using p1) ?_)
      · simp [execOp, ho, Instr.makeFunc]
      · simp only [VRel, DRel]
        have hl : as.length = (first.toList.map a.eval).length := by have := e1.length; simpa using this.symm
        refine ⟨f, first.toList.map a.eval, cap.toList.map a.eval, hk, by congr 1 <;> (apply Array.ext'; simp), ?_, ?_⟩
        · have := p2.take as.length; rwa [hl, List.take_left' rfl, ← hl] at this
        · have := p2.drop as.length; rwa [hl, List.drop_left' rfl, ← hl] at this
  · cases h

/-! ### rows that are data from now on -/

theorem rowsD_length : ∀ {xs : List (List V)} {ds : List (List D)} {sz : Nat}, rowsD xs = some ds → (∀ r ∈ xs, r.length = sz) → ds.length = xs.length ∧ ∀ r ∈ ds, r.length = sz
  | [], ds, sz, h, hs => by
    simp only [rowsD, Option.some.injEq] at h
    subst h
    simp
  | r :: rs, ds, sz, h, hs => by
    simp only [rowsD] at h
    split at h
    · rename_i d ds' h1 h2
      simp only [Option.some.injEq] at h
      subst h
      obtain ⟨k1, k2⟩ := rowsD_length h2 (fun r hr => hs r (by simp [hr]))
      refine ⟨by simp [k1], fun r' hr => ?_⟩
      rcases List.mem_cons.1 hr with rfl | hr
      · rw [toDs_length h1]; exact hs r (by simp)
      · exact k2 r' hr
    · cases h

theorem rows_data {g : Gh} {obj : Nat → Option Obj} {w : World} {im' : Nat → Nat → Prop} (hi : ∀ b o, g.im b o → im' b o) {b sz : Nat} : ∀ (xs : List (List V)) (ds : List (List D)) (lo : Nat),
    (∀ i r q x, xs[i]? = some r → r[q]? = some x → ∃ u, w.cell? (cellAt b (lo + i * sz + q)) = some u ∧ VRel tab g obj w x u ∧ u.oneCell' = true) → (∀ r ∈ xs, r.length = sz) → rowsD xs = some ds → (∀ q, q < xs.length * sz → im' b (lo + q)) → DRows tab im' w b lo ds
  | [], ds, lo, h, hs, hd, him => by
    simp only [rowsD, Option.some.injEq] at hd
    subst hd
    simp only [DRows]
  | r :: rs, ds, lo, h, hs, hd, him => by
    simp only [rowsD] at hd
    split at hd
    · rename_i d ds' h1 h2
      simp only [Option.some.injEq] at hd
      subst hd
      simp only [DRows]
      have hr : r.length = sz := hs r (by simp)
      have hdl := toDs_length h1
      obtain ⟨us, k1, k2⟩ := arr_row h (idx := 0) (row := r) rfl
      rw [Nat.zero_mul, Nat.add_zero] at k2
      have hle : sz ≤ (r :: rs).length * sz := by rw [List.length_cons, Nat.add_mul]; omega
      refine ⟨DCells.mk (us := us) (DList.mono (w := w) hi (fun _ _ _ => rfl) _ _ (toDs_rel h1 k1.toV)) k2 (fun q hq => him q (by omega)), ?_⟩
      rw [hdl, hr]
      refine rows_data (obj := obj) hi rs ds' (lo + sz) (fun i r' q x h3 h4 => ?_) (fun r hr => hs r (by simp [hr])) h2 (fun q hq => ?_)
      · have := h (i + 1) r' q x (by simpa using h3) h4
        rwa [show lo + (i + 1) * sz + q = lo + sz + i * sz + q by rw [Nat.add_mul]; omega] at this
      · have := him (sz + q) (by rw [List.length_cons, Nat.add_mul]; omega)
        rwa [← Nat.add_assoc] at this
    · cases hd

/-- a row, told by its cells. -/
theorem arr_data {g : Gh} {obj : Nat → Option Obj} {w : World} {im' : Nat → Nat → Prop} (hH : HRel tab g obj w) (hi : ∀ b o, g.im b o → im' b o) {id ver sz off len : Nat} {xs : List (List V)} {ds : List (List D)} (ho : obj id = some (.arr ver sz xs)) (hd : rowsD xs = some ds) (hle : off + len ≤ xs.length)
    (him : ∀ b q, owns g obj id b q → im' b q) {v : Value} (hv : VRel tab g obj w (.arr id ver off len) v) : DRel tab im' w (.l sz ((ds.drop off).take len)) v := by
  simp only [VRel] at hv
  obtain ⟨⟨A0, c0, e0, hlc0⟩, ver', sz', xs', h1, h2, h3⟩ := hv
  rw [ho] at h1
  simp only [Option.some.injEq, Obj.arr.injEq] at h1
  obtain ⟨rfl, rfl, rfl⟩ := h1
  obtain ⟨_, A, c, e1, h4⟩ := h3 rfl
  rw [e0] at e1
  simp only [Value.slice.injEq] at e1
  obtain ⟨rfl, _, rfl⟩ := e1
  obtain ⟨k1, k2, k4, k5⟩ := hH.ob id _ ho
  obtain ⟨l1, l2⟩ := rowsD_length hd k1
  have hrows : DRows tab im' w (g.at_ id).blk (g.at_ id).lo ds := rows_data hi xs ds _ k5 k1 hd (fun q hq => him _ _ (by unfold owns; rw [ho]; exact ⟨rfl, by omega, by omega⟩))
  have hl : ((ds.drop off).take len).length = len := by simp; omega
  simp only [DRel]
  refine ⟨A0, c0, by rw [hl]; exact e0, by rw [hl]; exact hlc0, fun r hr => l2 r (List.mem_of_mem_drop (List.mem_of_mem_take hr)), ?_⟩
  rcases h4 with h4 | ⟨h4, _⟩
  · exact .inl (List.length_eq_zero_iff.1 (by omega))
  · exact .inr ⟨_, _, h4, (hrows.drop off l2).take len⟩

theorem freeze_arr {g : Gh} {obj : Nat → Option Obj} {w : World} (hH : HRel tab g obj w) {id ver sz : Nat} {xs : List (List V)} {ds : List (List D)} (ho : obj id = some (.arr ver sz xs)) (hd : rowsD xs = some ds) :
    ∃ g', Post tab g obj w g' (updO obj id (some (.arr (ver + 1) sz []))) w ∧ ∀ off len v, off + len ≤ xs.length → VRel tab g obj w (.arr id ver off len) v → DRel tab g'.im w (.l sz ((ds.drop off).take len)) v := by
  let im' : Nat → Nat → Prop := fun b q => g.im b q ∨ owns g obj id b q
  have hno : ∀ b q, ¬ owns ⟨updP g.at_ id ⟨0, 0, 0⟩, im'⟩ (updO obj id (some (.arr (ver + 1) sz []))) id b q := fun b q h => by
    unfold owns at h
    rw [updO_same] at h
    simp only [updP_same] at h
    omega
  obtain ⟨k1, k2, k3⟩ := step1 (w' := w) hH id (.arr (ver + 1) sz []) ⟨0, 0, 0⟩ im' rfl rfl rfl (Nat.le_refl _) (fun _ _ => .refl _) (fun _ _ h => .inl h)
    (fun b q h => by
      rcases h with h | h
      · exact .inl h
      · exact .inr (.inl h))
    (fun b q h => absurd h (hno b q))
    (fun b q h => absurd h (hno b q))
    (by
      intro j
      by_cases e : j = id
      · subst e; rw [ho]
        exact ⟨_, _, updO_same _ _ _, Nat.le_succ _, fun e => by omega⟩
      · have := OEvo.refl g obj j
        rw [updO_ne _ _ e, show (⟨updP g.at_ id ⟨0, 0, 0⟩, im'⟩ : Gh).at_ j = g.at_ j from updP_ne _ _ e]
        exact this)
    (fun _ => ⟨by simp, by simp, fun q hq => by simp at hq, fun i r q x h => by simp at h⟩)
  exact ⟨_, ⟨k1, k2, k3⟩, fun off len v hle hv => arr_data hH (fun _ _ h => .inl h) ho hd hle (fun b q h => .inr h) hv⟩

theorem ok_frz {x : Operand} {cop : Cop} (ho : o.op = .move x ∨ o.op = .assign x) (hc : un1 P tab (some o.type) x .frz = some cop) : OkOp P tab o cop := by
  obtain ⟨a', ha, rfl⟩ := un1_rel hc
  intro nt g get obj a w hR fresh r hf h K Q hK
  have hx := compA_rel (w := w) ha hR.tmp
  have hex : (execOp a.eval o).run P w = .ok (.value (a.eval x)) w := by rcases ho with ho | ho <;> simp [execOp, ho]
  simp only [Cop.args, List.map_cons, List.map_nil, act, Cop.wr] at h hK
  generalize evA get a' = xv at hx h hK
  cases xv with
  | arr id ver off len =>
    simp only [Cop.ids, List.map_cons, List.map_nil] at h hK
    cases hob : obj id with
    | none => simp [actFrz, hob] at h
    | some ob =>
      cases ob <;> simp only [actFrz, hob] at h <;> try (cases h; done)
      rename_i ver' sz xs
      split at h
      · rename_i hcond
        split at h
        · rename_i ds hds
          simp only [Option.some.injEq] at h
          subst h
          obtain ⟨rfl, hle⟩ := hcond
          obtain ⟨g', p1, p2⟩ := freeze_arr hR.heap hob hds
          refine wp_value hex (hK g' _ w (by simpa [resO, updL] using p1) ?_)
          simp only [VRel]
          exact p2 off len _ hle hx
        · cases h
      · cases h
  | _ =>
    simp only [Cop.ids, List.map_nil, actFrz, Option.some.injEq] at h hK
    subst h
    exact wp_value hex (hK g _ w (by simpa [resO, updL] using Post.refl hR.heap) (by simpa [resO, updL] using hx))

end
end Ab

/-
  Each operation of the interpreter is the model's: what is compared cell by cell; maps.
-/
namespace Ab
open Go
open Go.RowKit (Below)
set_option linter.unusedVariables false

theorem eqDs_length : ∀ {ks : List CK} {xs ys : List D} {r : Bool}, eqDs ks xs ys = some r → xs.length = ks.length ∧ ys.length = ks.length
  | [], [], [], _, _ => ⟨rfl, rfl⟩
  | k :: ks, x :: xs, y :: ys, r, h => by
    simp only [eqDs] at h
    split at h
    · rename_i a b h1 h2
      have := eqDs_length h2
      simp [this.1, this.2]
    · cases h
  | [], _ :: _, _, _, h => by simp [eqDs] at h
  | [], [], _ :: _, _, h => by simp [eqDs] at h
  | _ :: _, [], _, _, h => by simp [eqDs] at h
  | _ :: _, _ :: _, [], _, h => by simp [eqDs] at h

theorem eqDs_append : ∀ {k ks : List CK} {xs ys : List D} {r : Bool}, eqDs (k ++ ks) xs ys = some r → ∃ a b, eqDs k (xs.take k.length) (ys.take k.length) = some a ∧ eqDs ks (xs.drop k.length) (ys.drop k.length) = some b ∧ r = (a && b)
  | [], ks, xs, ys, r, h => ⟨true, r, by simp [eqDs], by simpa using h, by simp⟩
  | c :: k, ks, [], ys, r, h => by simp [eqDs] at h
  | c :: k, ks, _ :: _, [], r, h => by simp [eqDs] at h
  | c :: k, ks, x :: xs, y :: ys, r, h => by
    simp only [List.cons_append, eqDs] at h
    split at h
    · rename_i a b h1 h2
      obtain ⟨a', b', e1, e2, e3⟩ := eqDs_append h2
      simp only [Option.some.injEq] at h
      refine ⟨a && a', b', ?_, ?_, ?_⟩
      · simp [eqDs, h1, e1]
      · simpa using e2
      · rw [← h, e3, Bool.and_assoc]
    · cases h

theorem eqDs_true : ∀ {ks : List CK} {xs ys : List D}, eqDs ks xs ys = some true → xs = ys
  | [], [], [], _ => rfl
  | k :: ks, x :: xs, y :: ys, h => by
    simp only [eqDs] at h
    split at h
    · rename_i a b h1 h2
      simp only [Option.some.injEq, Bool.and_eq_true] at h
      obtain ⟨rfl, rfl⟩ := h
      have := eqDs_true h2
      subst this
      congr 1
      unfold eqD at h1
      split at h1
      · split at h1
        · rename_i e; simp only [Option.some.injEq, beq_iff_eq] at h1; rw [e, h1]
        · cases h1
      · simp only [Option.some.injEq, beq_iff_eq] at h1; rw [h1]
      · simp only [Option.some.injEq, beq_iff_eq] at h1; rw [h1]
      · cases h1
    · cases h
  | [], _ :: _, _, h => by simp [eqDs] at h
  | [], [], _ :: _, h => by simp [eqDs] at h
  | _ :: _, [], _, h => by simp [eqDs] at h
  | _ :: _, _ :: _, [], h => by simp [eqDs] at h

section
variable {P : Program} {tab : Tab} {o : Oper}

theorem flatK_ok {f : Nat} {t : TypeId} {ks : List CK} (h : flatK P f t = some ks) : okVar P t ∧ ks.length = P.cellsOf t := by
  cases f with
  | zero => simp [flatK] at h
  | succ f =>
    unfold flatK at h
    cases hu : P.underlying t with
    | none => simp [hu] at h
    | some kd =>
      have hs : (P.underlying t).isSome = true := by simp [hu]
      cases kd <;> simp only [hu] at h
      case bool => split at h <;> simp_all [okVar]
                   subst h; rfl
      case int k => split at h <;> simp_all [okVar]
                    subst h; rfl
      case string => split at h <;> simp_all [okVar]
                     subst h; rfl
      case struct fs =>
        split at h
        · cases h
        · split at h
          · split at h
            · rename_i hc; simp only [Option.some.injEq] at h; subst h
              exact ⟨⟨hc.2, .inl (by simp [isAggT, hu]), by simp [hu]⟩, hc.1⟩
            · cases h
          · cases h
      case array n e =>
        split at h
        · split at h
          · rename_i ks' _ hc; simp only [Option.some.injEq] at h; subst h
            refine ⟨⟨hc.2.2, .inl (by simp [isAggT, hu]), by simp [hu]⟩, ?_⟩
            rw [flatten_length (sz := P.cellsOf e) (fun r hr => by rw [(List.mem_replicate.1 hr).2, hc.1])]
            rw [List.length_replicate, hc.2.1]
          · cases h
        · cases h
      all_goals (cases h)

theorem one_rel {im : Nat → Nat → Prop} {w : World} {x : D} {us : List Value} (h : DList tab im w [x] us) : ∃ u, us = [u] ∧ DRel tab im w x u := by
  cases us with
  | nil => simp only [DList] at h
  | cons u us =>
    cases us with
    | nil => simp only [DList] at h; exact ⟨u, rfl, h.1⟩
    | cons => simp only [DList] at h; exact h.2.elim

theorem eqDs_one {c : CK} {xs ys : List D} {r : Bool} (h : eqDs [c] xs ys = some r) : ∃ x y, xs = [x] ∧ ys = [y] ∧ eqD c x y = some r := by
  have hl := eqDs_length h
  match xs, ys, h, hl with
  | [x], [y], h, _ =>
    refine ⟨x, y, rfl, rfl, ?_⟩
    simp only [eqDs] at h
    split at h
    · rename_i a b h1 h2; cases h2; simp only [Option.some.injEq, Bool.and_true] at h; rw [h1, h]
    · cases h
  | [], _, _, hl => simp at hl
  | _ :: _ :: _, _, _, hl => simp at hl
  | [_], [], _, hl => simp at hl
  | [_], _ :: _ :: _, _, hl => simp at hl

theorem bytes_beq {s t : ByteArray} : (s == t) = (s.data.toList == t.data.toList) := by
  obtain ⟨⟨x⟩⟩ := s
  obtain ⟨⟨y⟩⟩ := t
  show ((⟨x⟩ : Array UInt8) == ⟨y⟩) = (x == y)
  simp

theorem eq_flat {im : Nat → Nat → Prop} {w : World} : ∀ (f : Nat) (t : TypeId) (ks : List CK), flatK P f t = some ks → ∀ (d : Nat), f ≤ d → ∀ (us vs : List Value) (xs ys : List D) (r : Bool), DList tab im w xs us → DList tab im w ys vs → eqDs ks xs ys = some r →
    (Op.equalIn d t (varOf (isAggT P t) us) (varOf (isAggT P t) vs)).run P w = .ok r w
  | 0, t, ks, h, d, hd, us, vs, xs, ys, r, h1, h2, h3 => by simp [flatK] at h
  | f + 1, t, ks, h, 0, hd, us, vs, xs, ys, r, h1, h2, h3 => by omega
  | f + 1, t, ks, h, d + 1, hd, us, vs, xs, ys, r, h1, h2, h3 => by
    have ih := eq_flat (im := im) (w := w) f
    have hd' : f ≤ d := by omega
    -- a part of both
    have hpart : ∀ (e : TypeId) (k : List CK) (off : Nat) (a : Bool), flatK P f e = some k → off + P.cellsOf e ≤ us.length → off + P.cellsOf e ≤ vs.length → eqDs k ((xs.drop off).take k.length) ((ys.drop off).take k.length) = some a →
        ∃ p q, (part e us.toArray off).run P w = .ok p w ∧ (part e vs.toArray off).run P w = .ok q w ∧ (Op.equalIn d e p q).run P w = .ok a w := by
      intro e k off a hk hu hv ha
      obtain ⟨hok, hkl⟩ := flatK_ok hk
      have p1 := run_part (P := P) (w := w) hok (cs := us.toArray) (off := off) (by simpa using hu)
      have p2 := run_part (P := P) (w := w) hok (cs := vs.toArray) (off := off) (by simpa using hv)
      refine ⟨_, _, p1, p2, ih e k hk d hd' _ _ _ _ a ((h1.drop off).take _) ((h2.drop off).take _) ?_⟩
      rw [← hkl]; exact ha
    have hxl := h1.length
    have hyl := h2.length
    have hel := eqDs_length h3
    obtain ⟨hok, hkl⟩ := flatK_ok h
    unfold flatK at h
    cases hu : P.underlying t with
    | none => simp [hu] at h
    | some kd =>
      cases kd <;> simp only [hu] at h
      case bool =>
        split at h
        · simp only [Option.some.injEq] at h; subst h
          obtain ⟨x, y, rfl, rfl, h4⟩ := eqDs_one h3
          obtain ⟨u, rfl, m1⟩ := one_rel h1
          obtain ⟨v, rfl, m2⟩ := one_rel h2
          cases x <;> cases y <;> simp [eqD] at h4
          simp only [DRel] at m1 m2
          subst m1; subst m2
          simp [varOf, isAggT, hu, Op.equalIn, run_underlying hu, h4]
        · cases h
      case int k =>
        split at h
        · simp only [Option.some.injEq] at h; subst h
          obtain ⟨x, y, rfl, rfl, h4⟩ := eqDs_one h3
          obtain ⟨u, rfl, m1⟩ := one_rel h1
          obtain ⟨v, rfl, m2⟩ := one_rel h2
          cases x <;> cases y <;> simp [eqD] at h4
          simp only [DRel] at m1 m2
          subst m1; subst m2
          obtain ⟨h4, h5⟩ := h4
          simp [varOf, isAggT, hu, Op.equalIn, run_underlying hu, h4, h5]
        · cases h
      case string =>
        split at h
        · simp only [Option.some.injEq] at h; subst h
          obtain ⟨x, y, rfl, rfl, h4⟩ := eqDs_one h3
          obtain ⟨u, rfl, m1⟩ := one_rel h1
          obtain ⟨v, rfl, m2⟩ := one_rel h2
          cases x <;> cases y <;> simp [eqD] at h4
          simp only [DRel] at m1 m2
          obtain ⟨s1, rfl, rfl⟩ := m1
          obtain ⟨s2, rfl, rfl⟩ := m2
          have : (Op.equalIn (d + 1) t (.string s1) (.string s2)).run P w = .ok (s1 == s2) w := by simp [Op.equalIn, run_underlying hu]
          rw [bytes_beq] at this
          simp only [varOf, isAggT, hu, Bool.false_eq_true, if_false, List.headD_cons, this, ← h4]
        · cases h
      case struct fs =>
        have hagg : isAggT P t = true := by simp [isAggT, hu]
        simp only [varOf, hagg, if_true]
        split at h
        · cases h
        · rename_i hheld
          split at h
          · rename_i ks' hfs
            split at h
            · simp only [Option.some.injEq] at h; subst h
              have hfo : P.fieldsOf t = fs := by simp [Program.fieldsOf, hu]
              rw [run_equalIn_struct w d t us.toArray vs.toArray (by rw [hfo]; exact hu) (by simpa using hheld), hfo]
              have fields : ∀ (L : List Field) (off : Nat) (ks : List CK) (r : Bool), flatK.flatFs P f L off = some ks → eqDs ks (xs.drop off) (ys.drop off) = some r → (Op.eqFields d us.toArray vs.toArray L).run P w = .ok r w := by
                intro L
                induction L with
                | nil =>
                  intro off ks r k1 k2
                  simp only [flatK.flatFs, Option.some.injEq] at k1
                  subst k1
                  have := eqDs_length k2
                  have e1 : xs.drop off = [] := List.length_eq_zero_iff.1 this.1
                  have e2 : ys.drop off = [] := List.length_eq_zero_iff.1 this.2
                  rw [e1, e2] at k2
                  simp only [eqDs, Option.some.injEq] at k2
                  subst k2
                  simp [Op.eqFields]
                | cons fl L ihL =>
                  intro off ks r k1 k2
                  simp only [flatK.flatFs] at k1
                  split at k1
                  · rename_i hoff
                    split at k1
                    · rename_i k ks' hk hks
                      split at k1
                      · rename_i hkl'
                        simp only [Option.some.injEq] at k1
                        subst k1
                        obtain ⟨a, b, m1, m2, rfl⟩ := eqDs_append k2
                        have hlen := eqDs_length k2
                        simp only [List.length_drop, List.length_append] at hlen
                        obtain ⟨hok', _⟩ := flatK_ok hk
                        have hpos : P.cellsOf fl.type ≠ 0 := hok'.1
                        obtain ⟨p, q, n1, n2, n3⟩ := hpart fl.type k off a hk (by omega) (by omega) m1
                        simp only [List.drop_drop, hkl'] at m2
                        have rest := ihL (off + P.cellsOf fl.type) ks' b hks m2
                        simp only [Op.eqFields, hoff.2, ne_eq, not_false_eq_true, if_true, hoff.1, Sem.run_bind, n1, n2, n3, Result.andThen_ok]
                        cases a
                        · simp
                        · simpa using rest
                      · cases k1
                    · cases k1
                  · cases k1
              exact fields fs.toList 0 ks' r hfs (by simpa using h3)
            · cases h
          · cases h
      case array n e =>
        have hagg : isAggT P t = true := by simp [isAggT, hu]
        simp only [varOf, hagg, if_true]
        split at h
        · rename_i k hk
          split at h
          · rename_i hc
            simp only [Option.some.injEq] at h; subst h
            obtain ⟨hok', hkl'⟩ := flatK_ok hk
            obtain ⟨i, hi, _⟩ := info_of hok'.1
            rw [run_equalIn_array w d us.toArray vs.toArray hu hi, List.range_eq_range']
            have items : ∀ (m j : Nat) (r : Bool), eqDs (List.replicate m k).flatten (xs.drop (j * P.cellsOf e)) (ys.drop (j * P.cellsOf e)) = some r → (Op.eqItems d e (P.cellsOf e) us.toArray vs.toArray (List.range' j m)).run P w = .ok r w := by
              intro m
              induction m with
              | zero =>
                intro j r k2
                simp only [List.replicate_zero, List.flatten_nil] at k2
                have := eqDs_length k2
                have e1 : xs.drop (j * P.cellsOf e) = [] := List.length_eq_zero_iff.1 this.1
                have e2 : ys.drop (j * P.cellsOf e) = [] := List.length_eq_zero_iff.1 this.2
                rw [e1, e2] at k2
                simp only [eqDs, Option.some.injEq] at k2
                subst k2
                simp [Op.eqItems]
              | succ m ihm =>
                intro j r k2
                simp only [List.replicate_succ, List.flatten_cons] at k2
                obtain ⟨a, b, m1, m2, rfl⟩ := eqDs_append k2
                have hlen := eqDs_length k2
                simp only [List.length_drop, List.length_append] at hlen
                have hpos : P.cellsOf e ≠ 0 := hok'.1
                obtain ⟨p, q, n1, n2, n3⟩ := hpart e k (j * P.cellsOf e) a hk (by omega) (by omega) m1
                simp only [List.drop_drop, hc.1] at m2
                have rest := ihm (j + 1) b (by rwa [Nat.add_mul, Nat.one_mul])
                rw [List.range'_succ]
                simp only [Op.eqItems, Sem.run_bind, n1, n2, n3, Result.andThen_ok]
                cases a
                · simp
                · simpa using rest
            exact items n 0 r (by simpa using h3)
          · cases h
        · cases h
      all_goals (cases h)

theorem ok_eqa {op : BinOp} {t : TypeId} {x y : Operand} {u : TypeId} {ks : List CK} {cop : Cop} (ho : o.op = .binOp op t x y u) (hop : isEqOp op = true) (hagg : isAggT P t = true) (hg : P.eqGuardType P.depth t = false) (hk : flatK P 20 t = some ks)
    (hc : bi2 P tab (some t) (some t) x y (.eqa ks (op == .neq)) = some cop) : OkOp P tab o cop := by
  obtain ⟨a', b', ha, hb, rfl⟩ := bi2_rel hc
  intro nt g get obj a w hR fresh r hf h K Q hK
  have hx := compA_rel (w := w) ha hR.tmp
  have hy := compA_rel (w := w) hb hR.tmp
  simp only [Cop.args, List.map_cons, List.map_nil] at h hK
  generalize evA get a' = xv at h hx hK
  generalize evA get b' = yv at h hy hK
  cases xv with
  | agg xs =>
    cases yv with
    | agg ys =>
      simp only [act] at h
      split at h
      · rename_i dx dy h1 h2
        split at h
        · rename_i rr hrr
          simp only [Option.some.injEq] at h
          subst h
          simp only [VRel] at hx hy
          obtain ⟨us, e1, c1⟩ := hx
          obtain ⟨vs, e2, c2⟩ := hy
          have he := eq_flat (P := P) (w := w) 20 t ks hk 10000 (by omega) us vs dx dy rr (toDs_rel h1 c1.toV) (toDs_rel h2 c2.toV) hrr
          simp only [varOf, hagg, if_true] at he
          have he : (Op.equal t (.agg us.toArray) (.agg vs.toArray)).run P w = .ok rr w := he
          have hgd : (eqGuard op t x y (.agg us.toArray) (.agg vs.toArray)).run P w = .ok () w := by
            cases op <;> simp [isEqOp] at hop <;> simp [eqGuard, hg]
          refine wp_value (v := .bool (if op == .neq then !rr else rr)) (w' := w) ?_ (hK g _ _ (.refl hR.heap) (by simp only [VRel, DRel]))
          simp only [execOp, ho, e1, e2, hgd, Sem.run_bind, Result.andThen_ok]
          cases op <;> simp [isEqOp] at hop <;> simp [Go.binOp, he] <;> rfl
        · cases h
      · cases h
    | _ => simp [act] at h
  | _ => simp [act] at h

end
end Ab

/-
  Each operation of the interpreter is the model's: maps.
-/
namespace Ab
open Go
open Go.RowKit (Below)
set_option linter.unusedVariables false

section
variable {P : Program} {tab : Tab} {o : Oper}

theorem check_flat {w : World} (em : Bool) : ∀ (f : Nat) (t : TypeId) (ks : List CK), flatK P f t = some ks → ∀ (d : Nat), f ≤ d → ∀ (us : List Value), us.length = P.cellsOf t → (Instr.checkKey em d t (varOf (isAggT P t) us)).run P w = .ok () w
  | 0, t, ks, h, d, hd, us, hl => by simp [flatK] at h
  | f + 1, t, ks, h, 0, hd, us, hl => by omega
  | f + 1, t, ks, h, d + 1, hd, us, hl => by
    have ih := check_flat (w := w) em f
    have hd' : f ≤ d := by omega
    have hpart : ∀ (e : TypeId) (k : List CK) (off : Nat), flatK P f e = some k → off + P.cellsOf e ≤ us.length →
        ∃ p, (part e us.toArray off).run P w = .ok p w ∧ (Instr.checkKey em d e p).run P w = .ok () w := by
      intro e k off hk hu
      obtain ⟨hok, hkl⟩ := flatK_ok hk
      have p1 := run_part (P := P) (w := w) hok (cs := us.toArray) (off := off) (by simpa using hu)
      exact ⟨_, p1, ih e k hk d hd' _ (by simp; omega)⟩
    obtain ⟨hok, hkl⟩ := flatK_ok h
    unfold flatK at h
    cases hu : P.underlying t with
    | none => simp [hu] at h
    | some kd =>
      cases kd <;> simp only [hu] at h
      case bool => simp [varOf, isAggT, hu, Instr.checkKey, run_underlying hu]
      case int k => simp [varOf, isAggT, hu, Instr.checkKey, run_underlying hu]
      case string => simp [varOf, isAggT, hu, Instr.checkKey, run_underlying hu]
      case struct fs =>
        have hagg : isAggT P t = true := by simp [isAggT, hu]
        simp only [varOf, hagg, if_true]
        split at h
        · cases h
        · split at h
          · rename_i ks' hfs
            split at h
            · rename_i hlen
              simp only [Option.some.injEq] at h; subst h
              rw [Instr.checkKey]
              simp only [Sem.run_bind, run_underlying hu, Result.andThen_ok]
              rw [← Array.forIn_toList]
              obtain ⟨off, k1, k2⟩ : ∃ off, flatK.flatFs P f fs.toList off = some ks' ∧ off + ks'.length ≤ us.length := ⟨0, hfs, by omega⟩
              clear hfs hlen hkl
              generalize fs.toList = L at k1
              induction L generalizing off ks' with
              | nil => simp
              | cons fl L ihL =>
                simp only [flatK.flatFs] at k1
                split at k1
                · rename_i hoff
                  split at k1
                  · rename_i k ks2 hk hks
                    split at k1
                    · rename_i hkl'
                      simp only [Option.some.injEq] at k1
                      subst k1
                      simp only [List.length_append] at k2
                      obtain ⟨p, n1, n2⟩ := hpart fl.type k off hk (by omega)
                      have rest := ihL ks2 (off + P.cellsOf fl.type) (by omega) hks
                      simp only [List.forIn_cons, Sem.run_bind, hoff.2, ne_eq, not_false_eq_true, if_true, hoff.1, Result.andThen_ok, n1, n2, Sem.run_pure]
                      exact rest
                    · cases k1
                  · cases k1
                · cases k1
            · cases h
          · cases h
      case array n e =>
        have hagg : isAggT P t = true := by simp [isAggT, hu]
        simp only [varOf, hagg, if_true]
        split at h
        · rename_i k hk
          split at h
          · rename_i hc
            simp only [Option.some.injEq] at h; subst h
            obtain ⟨hok', hkl'⟩ := flatK_ok hk
            obtain ⟨i, hi, _⟩ := info_of hok'.1
            rw [Instr.checkKey]
            simp only [Sem.run_bind, run_underlying hu, Result.andThen_ok]
            simp only [Std.Legacy.Range.forIn_eq_forIn_range', Std.Legacy.Range.size, Nat.sub_zero, Nat.add_one_sub_one, Nat.div_one]
            have hall : ∀ i ∈ List.range' 0 n, (i + 1) * P.cellsOf e ≤ us.length := fun i hi => by
              rw [List.mem_range'_1] at hi
              have : (i + 1) * P.cellsOf e ≤ n * P.cellsOf e := Nat.mul_le_mul_right _ (by omega)
              omega
            generalize List.range' 0 n = L at hall
            induction L with
            | nil => simp
            | cons j L ihL =>
              have h1 := hall j (by simp)
              rw [Nat.add_mul, Nat.one_mul] at h1
              obtain ⟨p, n1, n2⟩ := hpart e k (j * P.cellsOf e) hk (by omega)
              simp only [List.forIn_cons, Sem.run_bind, run_sizeOf w hi, Result.andThen_ok, n1, n2, Sem.run_pure]
              exact ihL fun i hi => hall i (by simp [hi])
          · cases h
        · cases h
      all_goals (cases h)

/-- a key as the map holds it. -/
theorem key_var {k : TypeId} {ks : List CK} (h : keyK P k = some ks) {us : List Value} (hl : us.length = ks.length) {v : Value} (hv : v.cells.toList = us) (h1 : ∀ u, us = [u] → us = [v]) : v = varOf (isAggT P k) us := by
  unfold keyK at h
  split at h
  · cases h
  · rename_i hn
    obtain ⟨⟨m1, m2, m3⟩, hkl⟩ := flatK_ok h
    cases ha : isAggT P k with
    | false =>
      simp only [ha, Bool.false_eq_true, false_or] at m2
      match us, hl with
      | [u], _ =>
        have := h1 u rfl
        simp only [List.cons.injEq, and_true] at this
        simp [varOf, this]
      | [], hl => simp at hl; omega
      | _ :: _ :: _, hl => simp at hl; omega
    | true =>
      have : P.cellsOf k ≠ 1 := fun e => hn ⟨ha, e⟩
      cases v with
      | agg cs => simp only [Value.cells] at hv; subst hv; simp [varOf]
      | _ => simp only [Value.cells] at hv; subst hv; simp at hl; omega

theorem sameBits_flat {im : Nat → Nat → Prop} {w : World} : ∀ {ks : List CK} {xs : List D} {us : List Value}, eqDs ks xs xs = some true → DList tab im w xs us → ∀ u ∈ us, ∀ n, Instr.sameBits n u u = true
  | [], [], us, _, h => by cases us with | nil => intro u hu; simp at hu | cons => simp only [DList] at h
  | k :: ks, x :: xs, us, h, hd => by
    cases us with
    | nil => simp only [DList] at hd
    | cons u us =>
      simp only [DList] at hd
      simp only [eqDs] at h
      split at h
      · rename_i a b h1 h2
        simp only [Option.some.injEq, Bool.and_eq_true] at h
        obtain ⟨rfl, rfl⟩ := h
        intro v hv n
        rcases List.mem_cons.1 hv with rfl | hv
        · have hd1 := hd.1
          cases x <;> cases k <;> simp [eqD] at h1
          · simp only [DRel] at hd1; subst hd1; cases n <;> simp [Instr.sameBits]
          · simp only [DRel] at hd1; subst hd1; cases n <;> simp [Instr.sameBits]
          · simp only [DRel] at hd1
            obtain ⟨s, rfl, _⟩ := hd1
            have : (s == s) = true := by rw [bytes_beq]; simp
            cases n <;> simp [Instr.sameBits, this]
        · exact sameBits_flat h2 hd.2 v hv n
      · cases h
  | [], _ :: _, _, h, _ => by simp [eqDs] at h
  | _ :: _, [], _, h, _ => by simp [eqDs] at h

theorem DList_same {im : Nat → Nat → Prop} {w : World} : ∀ {ks : List CK} {xs : List D} {us vs : List Value}, eqDs ks xs xs = some true → DList tab im w xs us → DList tab im w xs vs → us = vs
  | [], [], us, vs, _, h1, h2 => by
    cases us with
    | cons => simp only [DList] at h1
    | nil => cases vs with | cons => simp only [DList] at h2 | nil => rfl
  | k :: ks, x :: xs, us, vs, h, h1, h2 => by
    cases us with
    | nil => simp only [DList] at h1
    | cons u us =>
      cases vs with
      | nil => simp only [DList] at h2
      | cons v vs =>
        simp only [DList] at h1 h2
        simp only [eqDs] at h
        split at h
        · rename_i a b e1 e2
          simp only [Option.some.injEq, Bool.and_eq_true] at h
          obtain ⟨rfl, rfl⟩ := h
          have := DList_same e2 h1.2 h2.2
          subst this
          congr 1
          have d1 := h1.1
          have d2 := h2.1
          cases x <;> cases k <;> simp [eqD] at e1
          · simp only [DRel] at d1 d2; rw [d1, d2]
          · simp only [DRel] at d1 d2; rw [d1, d2]
          · simp only [DRel] at d1 d2
            obtain ⟨s, rfl, m1⟩ := d1
            obtain ⟨t, rfl, m2⟩ := d2
            congr 1
            exact ByteArray.ext (Array.ext' (by rw [m1, m2]))
        · cases h
  | [], _ :: _, _, _, h, _, _ => by simp [eqDs] at h
  | _ :: _, [], _, _, h, _, _ => by simp [eqDs] at h

theorem EList.at_ {g : Gh} {obj : Nat → Option Obj} {w : World} : ∀ {kvs : List (List D × V)} {es : List MapEntry}, EList tab g obj w kvs es → es.length = kvs.length
  | [], [], _ => rfl
  | (k, x) :: r, e :: es, h => by simp only [EList] at h; simp [EList.at_ h.2.2]
  | [], _ :: _, h => by simp only [EList] at h
  | (_, _) :: _, [], h => by simp only [EList] at h

theorem find_asking {g : Gh} {obj : Nat → Option Obj} {w : World} {kt : TypeId} {ks : List CK} (hk : keyK P kt = some ks) {kd : List D} {us : List Value} (hd : DList tab g.im w kd us) : ∀ (kvs : List (List D × V)) (es : List MapEntry) (i n : Nat), EList tab g obj w kvs es → mapAt ks kd kvs = some n →
    (Instr.findAsking kt (varOf (isAggT P kt) us) es i).run P w = .ok ((es[n]?).map fun e => (i + n, e.val)) w ∧ n ≤ kvs.length ∧ (n < kvs.length → ∃ e, es[n]? = some e ∧ e.key = varOf (isAggT P kt) us ∧ ∃ q, kvs[n]? = some q ∧ q.1 = kd)
  | [], [], i, n, h, hm => by
    simp only [mapAt, Option.some.injEq] at hm
    subst hm
    exact ⟨by simp [Instr.findAsking], Nat.le_refl _, fun h => absurd h (Nat.lt_irrefl _)⟩
  | [], _ :: _, _, _, h, _ => by simp only [EList] at h
  | (_, _) :: _, [], _, _, h, _ => by simp only [EList] at h
  | (k, x) :: r, e :: es, i, n, h, hm => by
    simp only [EList] at h
    obtain ⟨⟨kus, h1, h2, h3⟩, h4, h5⟩ := h
    have hflat : flatK P 20 kt = some ks := by
      unfold keyK at hk; split at hk
      · cases hk
      · exact hk
    have hkl := h1.length
    simp only [mapAt] at hm
    have var : ∀ b, eqDs ks kd k = some b → e.key = varOf (isAggT P kt) kus := fun b hb => by
      have := eqDs_length hb
      refine key_var hk (by omega) h2 (fun u hu => ?_)
      have : k.length = 1 := by rw [← hkl, hu]; rfl
      obtain ⟨c, rfl⟩ := List.length_eq_one_iff.1 this
      exact h3 c rfl
    split at hm
    · rename_i heq
      simp only [Option.some.injEq] at hm
      subst hm
      have := eqDs_true heq
      subst this
      have hus := DList_same heq hd h1
      subst hus
      have hv := var _ heq
      have hrun := eq_flat (P := P) (w := w) 20 kt ks hflat 10000 (by omega) us us kd kd true hd h1 heq
      have hrun : (Op.equal kt (varOf (isAggT P kt) us) e.key).run P w = .ok true w := by rw [hv]; exact hrun
      exact ⟨by simp [Instr.findAsking, hrun], Nat.zero_le _, fun _ => ⟨e, rfl, hv, (kd, x), rfl, rfl⟩⟩
    · rename_i heq
      split at hm
      · rename_i m hm'
        simp only [Option.some.injEq] at hm
        subst hm
        have hv := var _ heq
        have hrun := eq_flat (P := P) (w := w) 20 kt ks hflat 10000 (by omega) us kus kd k false hd h1 heq
        have hrun : (Op.equal kt (varOf (isAggT P kt) us) e.key).run P w = .ok false w := by rw [hv]; exact hrun
        obtain ⟨m1, m2, m3⟩ := find_asking hk hd r es (i + 1) m h5 hm'
        refine ⟨?_, by simp; omega, fun hl => ?_⟩
        · simp only [Instr.findAsking, Sem.run_bind, hrun, Result.andThen_ok, Bool.false_eq_true, if_false, m1, List.getElem?_cons_succ]
          congr 2
          funext e'
          congr 1
          omega
        · obtain ⟨e', n1, n2, n3⟩ := m3 (by simpa using hl)
          exact ⟨e', by simpa using n1, n2, by simpa using n3⟩
      · cases hm
    · cases hm

theorem findNow_asking {w : World} {kt : TypeId} {kind : TypeDesc} (hu : P.underlying kt = some kind) (k : Value) : ∀ (es : List MapEntry) (i : Nat) (r : Option (Nat × Value)), Instr.findNow kind k es i = some r → ∀ q, (Instr.findAsking kt k es i).run P w = .ok q w → r = q
  | [], i, r, h, q, hq => by
    simp only [Instr.findNow, Option.some.injEq] at h
    simp [Instr.findAsking] at hq
    rw [← h, hq]
  | e :: es, i, r, h, q, hq => by
    have same : ∀ b, Instr.sameNow kind k e.key = some b → (Op.equal kt k e.key).run P w = .ok b w := by
      intro b hb
      refine (?_ : ∀ d, (Op.equalIn (d + 1) kt k e.key).run P w = .ok b w) 9999
      intro d
      generalize e.key = ek at hb
      cases kind <;> cases k <;> cases ek <;> simp [Instr.sameNow] at hb
      · subst hb; simp [Op.equalIn, run_underlying hu]
      · obtain ⟨rfl, rfl⟩ := hb; simp [Op.equalIn, run_underlying hu]
      · subst hb; simp [Op.equalIn, run_underlying hu]
    simp only [Instr.findNow] at h
    cases hs : Instr.sameNow kind k e.key with
    | none => simp [hs] at h
    | some b =>
      have := same b hs
      simp only [Instr.findAsking, Sem.run_bind, this, Result.andThen_ok] at hq
      cases b with
      | true => simp [hs] at h; simp at hq; rw [← h, hq]
      | false =>
        simp [hs] at h
        exact findNow_asking hu k es (i + 1) r h q (by simpa using hq)

theorem find_sound {g : Gh} {obj : Nat → Option Obj} {w : World} {kt : TypeId} {ks : List CK} (hk : keyK P kt = some ks) {kd : List D} {us : List Value} (hd : DList tab g.im w kd us) {kvs : List (List D × V)} {es : List MapEntry} {n : Nat} (h : EList tab g obj w kvs es) (hm : mapAt ks kd kvs = some n) :
    (Instr.findKey kt (varOf (isAggT P kt) us) es).run P w = .ok ((es[n]?).map fun e => (n, e.val)) w ∧ n ≤ kvs.length ∧ (n < kvs.length → ∃ e, es[n]? = some e ∧ e.key = varOf (isAggT P kt) us ∧ ∃ q, kvs[n]? = some q ∧ q.1 = kd) := by
  obtain ⟨h1, h2, h3⟩ := find_asking hk hd kvs es 0 n h hm
  refine ⟨?_, h2, h3⟩
  have hflat : flatK P 20 kt = some ks := by
    unfold keyK at hk; split at hk
    · cases hk
    · exact hk
  obtain ⟨⟨_, _, hs⟩, _⟩ := flatK_ok hflat
  obtain ⟨kind, hu⟩ := Option.isSome_iff_exists.1 hs
  unfold Instr.findKey
  simp only [Sem.run_bind, run_underlying hu, Result.andThen_ok]
  simp only [Nat.zero_add] at h1
  cases hf : Instr.findNow kind (varOf (isAggT P kt) us) es 0 with
  | none => exact h1
  | some r => simp only [Sem.run_pure]; rw [findNow_asking hu _ es 0 r hf _ h1]

end
end Ab

/-
  Each operation of the interpreter is the model's: maps, made, asked, turned.
-/
namespace Ab
open Go
open Go.RowKit (Below)
set_option linter.unusedVariables false

section
variable {P : Program} {tab : Tab} {o : Oper}

theorem ok_mkm {t k e : TypeId} (ho : o.op = .makeMap t none) : OkOp P tab o .mkm := by
  intro nt g get obj a w hR fresh r hf h K Q hK
  simp only [act, Option.some.injEq] at h
  subst h
  have hrun : (execOp a.eval o).run P w = .ok (.value (.map (some w.heap.size))) (w.alloc (.map #[] 0)) := by
    simp [execOp, ho, Instr.makeMap]
  have hsz : (w.alloc (.map #[] 0)).heap.size = w.heap.size + 1 := Array.size_push ..
  have hno : ∀ b q, owns ⟨updP g.at_ fresh ⟨w.heap.size, 0, 0⟩, g.im⟩ (updO obj fresh (some (.map []))) fresh b q → b = w.heap.size := fun b q h => by
    unfold owns at h; simp only [updO_same, updP_same] at h; exact h
  obtain ⟨h1, h2, h3⟩ := step1 (w' := w.alloc (.map #[] 0)) hR.heap fresh (.map []) ⟨w.heap.size, 0, 0⟩ g.im rfl rfl rfl (by omega)
    (fun b hb => .inl (by show (w.heap.push _)[b]? = _; rw [Array.getElem?_push, if_neg (by omega)]))
    (fun b q h => h) (fun b q h => .inl h)
    (fun b q h => by
      have := hno b q h
      subst this
      exact ⟨.inr ⟨Nat.le_refl _, by omega⟩, fun h => by have := hR.heap.imOld _ _ h; omega⟩)
    (fun b q h hm => by simp [Obj.isMap] at hm)
    (.fresh hf _ _ _)
    (fun _ => ⟨#[], 0, by show (w.heap.push _)[w.heap.size]? = _; simp, by simp [EList]⟩)
  refine wp_value hrun (hK ⟨updP g.at_ fresh ⟨w.heap.size, 0, 0⟩, g.im⟩ _ _ ⟨h1, h2, h3⟩ ?_)
  simp only [resO, Cop.wr, VRel, updO_same, updP_same, Bool.false_eq_true, if_false]
  exact ⟨⟨[], rfl⟩, trivial⟩

theorem keyK_flat {kt : TypeId} {ks : List CK} (hk : keyK P kt = some ks) : flatK P 20 kt = some ks := by
  unfold keyK at hk; split at hk
  · cases hk
  · exact hk

/-- what is handed as a key. -/
theorem key_arg {g : Gh} {obj : Nat → Option Obj} {w : World} {kt : TypeId} {ks : List CK} (hk : keyK P kt = some ks) {x : V} {kd : List D} (h : keyD (isAggT P kt) ks.length x = some kd) {v : Value} (hx : VRel tab g obj w x v) :
    ∃ us, DList tab g.im w kd us ∧ us.length = P.cellsOf kt ∧ v = varOf (isAggT P kt) us ∧ (∀ c, kd = [c] → v.cells.toList = us ∧ us = [v]) ∧ v.cells.toList = us := by
  obtain ⟨⟨h1, h2, h3⟩, hkl⟩ := flatK_ok (keyK_flat hk)
  unfold keyD at h
  split at h
  · rename_i hok
    split at h
    · rename_i kd' hd
      split at h
      · rename_i hl
        simp only [Option.some.injEq] at h
        subst h
        have hc := cel_rel (toDs_cel hd) hx
        have hdl : DList tab g.im w kd' v.cells.toList := toDs_rel hd hc.toV
        have hlen : v.cells.toList.length = P.cellsOf kt := by rw [hdl.length, hl, hkl]
        cases ha : isAggT P kt with
        | true =>
          rw [ha] at hok
          cases x with
          | agg cs =>
            simp only [VRel] at hx
            obtain ⟨vs, rfl, _⟩ := hx
            refine ⟨_, hdl, hlen, by simp [varOf, Value.cells], fun c e => ?_, rfl⟩
            exfalso
            unfold keyK at hk
            split at hk
            · cases hk
            · rename_i hn
              exact hn ⟨ha, by rw [← hlen, hdl.length, e]; rfl⟩
          | _ => simp [okKey] at hok
        | false =>
          have ho : v.oneCell' = true := by
            rw [ha] at hok
            refine hx.scalar (fun cs e => by subst e; simp [okKey] at hok) (fun cs e => by subst e; simp [V.cells, V.toDs, V.toD] at hd) (fun e => by subst e; simp [V.cells, V.toDs, V.toD] at hd)
          have hcells : v.cells.toList = [v] := by cases v <;> simp_all [Value.cells, Value.oneCell']
          refine ⟨_, hdl, hlen, by simp [varOf, hcells], fun c _ => ⟨rfl, hcells⟩, rfl⟩
      · cases h
    · cases h
  · cases h

theorem lk_sound {g : Gh} {obj : Nat → Option Obj} {w : World} (hH : HRel tab g obj w) {kt : TypeId} {ks : List CK} (hk : keyK P kt = some ks) {id : Nat} {kvs : List (List D × V)} (ho : obj id = some (.map kvs)) {kd : List D} {us : List Value} (hd : DList tab g.im w kd us) (hl : us.length = P.cellsOf kt) {n : Nat} (hm : mapAt ks kd kvs = some n) (em : Array MapEntry → Bool) :
    ∃ es clock, w.heap[(g.at_ id).blk]? = some (.map es clock) ∧ EList tab g obj w kvs es.toList ∧ (Instr.checkKey (em es) 10000 kt (varOf (isAggT P kt) us)).run P w = .ok () w ∧
      (Instr.findKey kt (varOf (isAggT P kt) us) es.toList).run P w = .ok ((es[n]?).map fun e => (n, e.val)) w ∧ n ≤ kvs.length ∧ (n < kvs.length → ∃ e, es[n]? = some e ∧ e.key = varOf (isAggT P kt) us) := by
  obtain ⟨es, clock, h1, h2⟩ := hH.ob id _ ho
  have hflat : flatK P 20 kt = some ks := by
    unfold keyK at hk; split at hk
    · cases hk
    · exact hk
  obtain ⟨k1, k2, k3⟩ := find_sound (P := P) hk hd h2 hm
  refine ⟨es, clock, h1, h2, check_flat (em es) 20 kt ks hflat 10000 (by omega) us hl, by simpa using k1, k2, fun hn => ?_⟩
  obtain ⟨e, m1, m2, _⟩ := k3 hn
  exact ⟨e, by simpa using m1, m2⟩

theorem EList.val {g : Gh} {obj : Nat → Option Obj} {w : World} : ∀ {kvs : List (List D × V)} {es : List MapEntry}, EList tab g obj w kvs es → ∀ {n : Nat} {p : List D × V}, kvs[n]? = some p → ∃ e, es[n]? = some e ∧ VRel tab g obj w p.2 e.val
  | (k, x) :: r, e :: es, h, 0, p, hp => by simp only [EList] at h; simp at hp; subst hp; exact ⟨e, rfl, h.2.1⟩
  | (k, x) :: r, e :: es, h, n + 1, p, hp => by simp only [EList] at h; simpa using EList.val h.2.2 (n := n) (by simpa using hp)
  | [], _, _, _, _, hp => by simp at hp
  | (_, _) :: _, [], h, _, _, _ => by simp only [EList] at h


def gotV (ok : Bool) (z : Value) : Option MapEntry → Value
  | some e => if ok then .tuple #[e.val, .bool true] else e.val
  | none => if ok then .tuple #[z, .bool false] else z

theorem got_rel {g : Gh} {obj : Nat → Option Obj} {w : World} {ok : Bool} {zero : V} {z : Value} (hz : VRel tab g obj w zero z) {p : Option (List D × V)} {e : Option MapEntry} (h : (p = none ∧ e = none) ∨ ∃ p' e', p = some p' ∧ e = some e' ∧ VRel tab g obj w p'.2 e'.val) :
    VRel tab g obj w (got ok zero p) (gotV ok z e) := by
  rcases h with ⟨rfl, rfl⟩ | ⟨p, e, rfl, rfl, h⟩
  · cases ok
    · exact hz
    · simp only [got, gotV, if_true, VRel]
      exact ⟨[z, .bool false], rfl, by simp only [VList, VRel, DRel]; exact ⟨hz, trivial, trivial⟩⟩
  · cases ok
    · exact h
    · simp only [got, gotV, if_true, VRel]
      exact ⟨[e.val, .bool true], rfl, by simp only [VList, VRel, DRel]; exact ⟨h, trivial, trivial⟩⟩

theorem ok_lk {t kt et : TypeId} {m k : Operand} {ok : Bool} {ks : List CK} {z : V} {cop : Cop} (ho : o.op = .lookup t m k ok) (ht : P.underlying t = some (.map kt et)) (hz : zeroOf P et = some z) (hk : keyK P kt = some ks)
    (hc : bi2 P tab (some t) (some kt) m k (.lk (isAggT P kt) ks ok z) = some cop) : OkOp P tab o cop := by
  obtain ⟨a', b', ha, hb, rfl⟩ := bi2_rel hc
  intro nt g get obj a w hR fresh r hf h K Q hK
  have hx := compA_rel (w := w) ha hR.tmp
  have hy := compA_rel (w := w) hb hR.tmp
  have hres : ∀ v os, resO obj (Cop.wr (.lk (isAggT P kt) ks ok z a' b')) (Cop.ids (.lk (isAggT P kt) ks ok z a' b') ((Cop.args (.lk (isAggT P kt) ks ok z a' b')).map (evA get))) ⟨v, os, none⟩ fresh = obj := fun v os => resO_same rfl
  obtain ⟨i, z0, hi, hiz, _, _, _, hzr⟩ := zeroOf_rel (tab := tab) hz g obj w
  simp only [Cop.args, List.map_cons, List.map_nil, act, optV] at h hK hres
  generalize evA get a' = xv at h hx hK hres
  generalize evA get b' = yv at h hy hK hres
  split at h
  · rename_i v hv
    simp only [Option.some.injEq] at h
    subst h
    rw [hres] at hK
    cases xv with
    | map id =>
      simp only [Cop.ids, List.map_cons, List.map_nil] at hv
      simp only [VRel] at hx
      obtain ⟨⟨kvs, hobj⟩, hxv⟩ := hx
      simp only [actLk, hobj] at hv
      split at hv
      · rename_i kd hkd
        split at hv
        · rename_i n hn
          simp only [Option.some.injEq] at hv
          subst hv
          obtain ⟨us, m1, m2, m3, _⟩ := key_arg hk hkd hy
          obtain ⟨es, clock, e1, e2, e3, e4, e5, e6⟩ := lk_sound (P := P) hR.heap hk hobj m1 m2 hn (fun es => es.isEmpty)
          have hg : (getObj (g.at_ id).blk).run P w = .ok (.map es clock) w := MapKept.run_getObj_map e1
          refine wp_value (v := gotV ok z0 es[n]?) (w' := w) ?_ (hK g _ w (.refl hR.heap) (got_rel hzr ?_))
          · simp only [execOp, ho, hxv, m3, Instr.lookup, Sem.run_bind, run_underlying ht, Result.andThen_ok, hg, Sem.run_pure, e3, e4]
            cases hes : es[n]? with
            | none => cases ok <;> simp [gotV, zeroValue, typeInfo, hi, hiz]
            | some e => cases ok <;> simp [gotV]
          · have hl := e2.at_
            cases hp : kvs[n]? with
            | none =>
              have : es[n]? = none := by
                rw [Array.getElem?_eq_none_iff]
                have := List.getElem?_eq_none_iff.1 hp
                simp at hl; omega
              exact .inl ⟨rfl, this⟩
            | some p =>
              obtain ⟨e, n1, n2⟩ := e2.val hp
              have : es[n]? = some e := by simpa using n1
              exact .inr ⟨p, e, rfl, this, n2⟩
        · cases hv
      · cases hv
    | d x =>
      cases x with
      | nm =>
        simp only [Cop.ids, List.map_nil, actLk] at hv
        simp only [VRel, DRel] at hx
        split at hv
        · rename_i kd hkd
          simp only [Option.some.injEq] at hv
          subst hv
          obtain ⟨us, m1, m2, m3, _⟩ := key_arg hk hkd hy
          have e3 := check_flat (P := P) (w := w) true 20 kt ks (keyK_flat hk) 10000 (by omega) us m2
          have e4 : (Instr.findKey kt (varOf (isAggT P kt) us) []).run P w = .ok none w := by
            have := (find_sound (P := P) (tab := tab) (g := g) (obj := obj) (w := w) hk m1 (kvs := []) (es := []) (n := 0) (by simp [EList]) rfl).1
            simpa using this
          refine wp_value (v := gotV ok z0 none) (w' := w) ?_ (hK g _ w (.refl hR.heap) (got_rel hzr (.inl ⟨rfl, rfl⟩)))
          simp only [execOp, ho, hx, m3, Instr.lookup, Sem.run_bind, run_underlying ht, Result.andThen_ok, Sem.run_pure, List.isEmpty_toArray, List.isEmpty_nil, e3, e4]
          cases ok <;> simp [gotV, zeroValue, typeInfo, hi, hiz]
        · cases hv
      | _ => simp [actLk, Cop.ids] at hv
    | _ => simp [actLk, Cop.ids] at hv
  · cases h

theorem EList.set {g : Gh} {obj : Nat → Option Obj} {w : World} {kd : List D} {v : V} {e0 : MapEntry} (h0 : (∃ ks, DList tab g.im w kd ks ∧ e0.key.cells.toList = ks ∧ (∀ c, kd = [c] → ks = [e0.key])) ∧ VRel tab g obj w v e0.val) :
    ∀ {kvs : List (List D × V)} {es : List MapEntry} (n : Nat), EList tab g obj w kvs es → EList tab g obj w (kvs.set n (kd, v)) (es.set n e0)
  | [], [], n, h => by simpa using h
  | (k, x) :: r, e :: es, 0, h => by simp only [EList] at h; simp only [List.set_cons_zero, EList]; exact ⟨h0.1, h0.2, h.2.2⟩
  | (k, x) :: r, e :: es, n + 1, h => by simp only [EList] at h; simp only [List.set_cons_succ, EList]; exact ⟨h.1, h.2.1, EList.set h0 n h.2.2⟩
  | [], _ :: _, _, h => by simp only [EList] at h
  | (_, _) :: _, [], _, h => by simp only [EList] at h

theorem EList.push {g : Gh} {obj : Nat → Option Obj} {w : World} {kd : List D} {v : V} {e0 : MapEntry} (h0 : (∃ ks, DList tab g.im w kd ks ∧ e0.key.cells.toList = ks ∧ (∀ c, kd = [c] → ks = [e0.key])) ∧ VRel tab g obj w v e0.val) :
    ∀ {kvs : List (List D × V)} {es : List MapEntry}, EList tab g obj w kvs es → EList tab g obj w (kvs ++ [(kd, v)]) (es ++ [e0])
  | [], [], h => by simp only [List.nil_append, EList]; exact ⟨h0.1, h0.2, trivial⟩
  | (k, x) :: r, e :: es, h => by simp only [EList] at h; simp only [List.cons_append, EList]; exact ⟨h.1, h.2.1, EList.push h0 h.2.2⟩
  | [], _ :: _, h => by simp only [EList] at h
  | (_, _) :: _, [], h => by simp only [EList] at h

theorem EList.erase {g : Gh} {obj : Nat → Option Obj} {w : World} : ∀ {kvs : List (List D × V)} {es : List MapEntry} (n : Nat), EList tab g obj w kvs es → EList tab g obj w (kvs.eraseIdx n) (es.eraseIdx n)
  | [], [], n, h => by simpa using h
  | (k, x) :: r, e :: es, 0, h => by simp only [EList] at h; simpa using h.2.2
  | (k, x) :: r, e :: es, n + 1, h => by simp only [EList] at h; simp only [List.eraseIdx_cons_succ, EList]; exact ⟨h.1, h.2.1, EList.erase n h.2.2⟩
  | [], _ :: _, _, h => by simp only [EList] at h
  | (_, _) :: _, [], _, h => by simp only [EList] at h

/-- a map's entries are other ones. -/
theorem post_map {g : Gh} {obj : Nat → Option Obj} {w : World} (hH : HRel tab g obj w) {id : Nat} {kvs kvs' : List (List D × V)} (ho : obj id = some (.map kvs)) {es es' : Array MapEntry} {cl cl' : Nat} (hb : w.heap[(g.at_ id).blk]? = some (.map es cl))
    (hE : EList tab g obj w kvs' es'.toList) :
    Post tab g obj w g (updO obj id (some (.map kvs'))) { w with heap := w.heap.setIfInBounds (g.at_ id).blk (.map es' cl') } := by
  have hat : updP g.at_ id (g.at_ id) = g.at_ := by funext j; unfold updP; split <;> simp_all
  have howns : ∀ b q, owns ⟨updP g.at_ id (g.at_ id), g.im⟩ (updO obj id (some (.map kvs'))) id b q → owns g obj id b q := fun b q h => by
    unfold owns at *
    simp only [updO_same, updP_same] at h
    rw [ho]; exact h
  have hlt : (g.at_ id).blk < w.heap.size := by
    rcases Nat.lt_or_ge (g.at_ id).blk w.heap.size with h | h
    · exact h
    · rw [Array.getElem?_eq_none h] at hb; cases hb
  obtain ⟨h1, h2, h3⟩ := step1 (w' := { w with heap := w.heap.setIfInBounds (g.at_ id).blk (.map es' cl') }) hH id (.map kvs') (g.at_ id) g.im rfl rfl rfl (by simp)
    (fun b hb' => by
      by_cases e : b = (g.at_ id).blk
      · subst e
        refine Or.inr (Or.inr ⟨es, cl, es', cl', hb, by simp [hlt], fun o => ?_⟩)
        unfold owns; rw [ho]
      · refine .inl ?_
        show (w.heap.setIfInBounds _ _)[b]? = _
        rw [Array.getElem?_setIfInBounds_ne (fun h => e h.symm)])
    (fun b q h => h) (fun b q h => .inl h)
    (fun b q h => ⟨.inl (howns b q h), hH.imm id b q (howns b q h)⟩)
    (fun b q h hm => by simp [Obj.isMap] at hm)
    (by
      intro j
      by_cases e : j = id
      · subst e; rw [ho]; exact ⟨⟨kvs', updO_same _ _ _⟩, updP_same _ _ _⟩
      · have := OEvo.refl g obj j
        rw [updO_ne _ _ e, show (⟨updP g.at_ id (g.at_ id), g.im⟩ : Gh).at_ j = g.at_ j from updP_ne _ _ e]
        exact this)
    (fun hv => by
      refine ⟨es', cl', by simp [hlt], ?_⟩
      have cellI : ∀ b o, g.im b o → ({ w with heap := w.heap.setIfInBounds (g.at_ id).blk (.map es' cl') } : World).cell? (cellAt b o) = w.cell? (cellAt b o) := fun b o hi => by
        have hne : b ≠ (g.at_ id).blk := fun e => hH.imm id b o (by unfold owns; rw [ho]; exact e) hi
        refine World.cell?_of_block (w := w) (a := cellAt b o) ?_
        show (w.heap.setIfInBounds _ _)[b]? = _
        rw [Array.getElem?_setIfInBounds_ne (fun h => hne h.symm)]
      have : ∀ {kvs : List (List D × V)} {es : List MapEntry}, EList tab g obj w kvs es → EList tab ⟨updP g.at_ id (g.at_ id), g.im⟩ (updO obj id (some (.map kvs'))) { w with heap := w.heap.setIfInBounds (g.at_ id).blk (.map es' cl') } kvs es := by
        intro kvs
        induction kvs with
        | nil => intro es h; cases es with | nil => simp only [EList] | cons => simp only [EList] at h
        | cons p kvs ih =>
          intro es h
          cases es with
          | nil => simp only [EList] at h
          | cons e es =>
            simp only [EList] at h ⊢
            obtain ⟨⟨us, k1, k2, k3⟩, k4, k5⟩ := h
            exact ⟨⟨us, DList.mono (fun _ _ h => h) cellI _ _ k1, k2, k3⟩, hv _ _ k4, ih k5⟩
      exact this hE)
  rw [hat] at h1 h2 h3
  exact ⟨h1, h2, h3⟩

theorem ok_mu {t kt et : TypeId} {m k x : Operand} {ks : List CK} {m' k' x' : A} (ho : o.op = .mapUpdate t m k x ∨ o.op = .insert t m k x) (ht : P.underlying t = some (.map kt et)) (hk : keyK P kt = some ks)
    (hm : compA P tab (some t) m = some m') (hk' : compA P tab (some kt) k = some k') (hx' : compA P tab (some et) x = some x') : OkOp P tab o (.mu (isAggT P kt) ks m' k' x') := by
  intro nt g get obj a w hR fresh r hf h K Q hK
  have hx := compA_rel (w := w) hm hR.tmp
  have hy := compA_rel (w := w) hk' hR.tmp
  have hz := compA_rel (w := w) hx' hR.tmp
  simp only [Cop.args, List.map_cons, List.map_nil, act] at h hK
  generalize evA get m' = xv at h hx hK
  generalize evA get k' = yv at h hy hK
  generalize evA get x' = zv at h hz hK
  split at h
  · rename_i os' hv
    simp only [Option.some.injEq] at h
    subst h
    cases xv with
    | map id =>
      simp only [Cop.ids, List.map_cons, List.map_nil] at hv hK
      simp only [VRel] at hx
      obtain ⟨⟨kvs, hobj⟩, hxv⟩ := hx
      simp only [actMu, hobj] at hv
      split at hv
      · rename_i kd hkd
        split at hv
        · rename_i n hn
          simp only [Option.some.injEq] at hv
          subst hv
          obtain ⟨us, m1, m2, m3, m4, m5⟩ := key_arg hk hkd hy
          obtain ⟨es, clock, e1, e2, e3, e4, e5, e6⟩ := lk_sound (P := P) hR.heap hk hobj m1 m2 hn (fun es => false)
          have hl := e2.at_
          simp only [Array.length_toList] at hl
          have hg : (getObj (g.at_ id).blk).run P w = .ok (.map es clock) w := MapKept.run_getObj_map e1
          have hset : ∀ ob, (setObj (g.at_ id).blk ob).run P w = .ok () { w with heap := w.heap.setIfInBounds (g.at_ id).blk ob } := fun ob => MapKept.run_setObj_map ob e1
          have ent : ∀ e0 : MapEntry, e0.key = a.eval k → e0.val = a.eval x → (∃ ks, DList tab g.im w kd ks ∧ e0.key.cells.toList = ks ∧ (∀ c, kd = [c] → ks = [e0.key])) ∧ VRel tab g obj w zv e0.val := fun e0 q1 q2 => by
            rw [q1, q2]
            exact ⟨⟨us, m1, m5, fun c e => (m4 c e).2⟩, hz⟩
          have hexec : ∀ w', (Instr.mapUpdate t (a.eval m) (a.eval k) (a.eval x)).run P w = .ok () w' → (execOp a.eval o).run P w = .ok .skip w' := fun w' q => by
            rcases ho with ho | ho <;> simp [execOp, ho, q]
          by_cases hlt : n < kvs.length
          · rw [if_pos hlt] at hK
            obtain ⟨e, q1, q2⟩ := e6 hlt
            have hpost := post_map hR.heap (es' := es.modify n fun e => { e with key := a.eval k, val := a.eval x }) (cl' := clock) hobj e1 (kvs' := kvs.set n (kd, zv)) (by
              have : (es.modify n fun e => { e with key := a.eval k, val := a.eval x }).toList = es.toList.set n { e with key := a.eval k, val := a.eval x } := by
                apply List.ext_getElem?
                intro j
                rw [Array.getElem?_toList, Array.getElem?_modify, List.getElem?_set]
                by_cases ej : n = j
                · subst ej
                  obtain ⟨q3, q4⟩ := Array.getElem?_eq_some_iff.1 q1
                  simp [q1, q3, q4]
                · simp [ej]
              rw [this]
              exact EList.set (ent _ rfl rfl) n e2)
            refine wp_skip' (hexec _ ?_) (hK g undef _ (by simpa [resO, Cop.wr, updL] using hpost) undef_rel)
            have hstays : (Instr.keyThatStays e.key (a.eval k)).run P w = .ok (a.eval k) w := by
              rw [q2, ← m3]
              have hs : Instr.sameBits 10000 (a.eval k) (a.eval k) = true := by
                have hself : eqDs ks kd kd = some true := by
                  have : ∀ (kvs : List (List D × V)) (n : Nat), mapAt ks kd kvs = some n → n < kvs.length → eqDs ks kd kd = some true := by
                    intro kvs
                    induction kvs with
                    | nil => intro n _ h; simp at h
                    | cons p kvs ih =>
                      intro n h1 h2
                      simp only [mapAt] at h1
                      split at h1
                      · rename_i heq; have := eqDs_true heq; rw [← this] at heq; exact heq
                      · split at h1
                        · rename_i m hm'; simp only [Option.some.injEq] at h1; subst h1; exact ih m hm' (by simpa using h2)
                        · cases h1
                      · cases h1
                  exact this kvs n hn hlt
                have hb := sameBits_flat hself m1
                cases hag : isAggT P kt with
                | false =>
                  rw [hag] at m3
                  obtain ⟨⟨w1, w2, w3⟩, _⟩ := flatK_ok (keyK_flat hk)
                  simp only [hag, Bool.false_eq_true, false_or] at w2
                  match us, m2, m3, hb with
                  | [u], _, m3, hb => rw [m3]; exact hb u (by simp) 10000
                  | [], m2, _, _ => simp at m2; omega
                  | _ :: _ :: _, m2, _, _ => simp at m2; omega
                | true =>
                  rw [hag] at m3
                  rw [m3]
                  refine (?_ : ∀ n, Instr.sameBits (n + 1) (.agg us.toArray) (.agg us.toArray) = true) 9999
                  intro n
                  simp only [Instr.sameBits, beq_self_eq_true, Bool.true_and, List.all_eq_true]
                  intro p hp
                  obtain ⟨i, hi, e⟩ := List.getElem_of_mem hp
                  rw [List.getElem_zip] at e
                  rw [← e]
                  exact hb _ (List.getElem_mem _) n
              simp [Instr.keyThatStays, hs]
            simp only [Instr.mapUpdate, hxv, Sem.run_bind, run_underlying ht, Result.andThen_ok, hg, m3] at *
            simp [e3, e4, q1, hstays, hset]
          · rw [if_neg hlt] at hK
            have hnn : n = es.size := by omega
            have hnone : es[n]? = none := by rw [Array.getElem?_eq_none_iff]; omega
            have hpost := post_map hR.heap (es' := es.push { key := a.eval k, val := a.eval x, born := clock }) (cl' := clock + 1) hobj e1 (kvs' := kvs ++ [(kd, zv)]) (by
              rw [Array.toList_push]
              exact EList.push (ent _ rfl rfl) e2)
            refine wp_skip' (hexec _ ?_) (hK g undef _ (by simpa [resO, Cop.wr, updL] using hpost) undef_rel)
            simp only [Instr.mapUpdate, hxv, Sem.run_bind, run_underlying ht, Result.andThen_ok, hg, m3] at *
            simp [e3, e4, hnone, hset]
        · cases hv
      · cases hv
    | _ => simp [actMu, Cop.ids] at hv
  · cases h

theorem ok_del {t kt et u : TypeId} {m k : Operand} {ks : List CK} {cop : Cop} (ho : o.op = .call { callee := .builtin .delete, args := #[m, k], argTypes := #[t, u] }) (ht : P.underlying t = some (.map kt et)) (hk : keyK P kt = some ks)
    (hc : bi2 P tab (some t) (some kt) m k (.del (isAggT P kt) ks) = some cop) : OkOp P tab o cop := by
  obtain ⟨m', k', hm, hk', rfl⟩ := bi2_rel hc
  intro nt g get obj a w hR fresh r hf h K Q hK
  have hx := compA_rel (w := w) hm hR.tmp
  have hy := compA_rel (w := w) hk' hR.tmp
  simp only [Cop.args, List.map_cons, List.map_nil, act] at h hK
  generalize evA get m' = xv at h hx hK
  generalize evA get k' = yv at h hy hK
  split at h
  · rename_i os' hv
    simp only [Option.some.injEq] at h
    subst h
    cases xv with
    | map id =>
      simp only [Cop.ids, List.map_cons, List.map_nil] at hv hK
      simp only [VRel] at hx
      obtain ⟨⟨kvs, hobj⟩, hxv⟩ := hx
      simp only [actDel, hobj] at hv
      split at hv
      · rename_i kd hkd
        split at hv
        · rename_i n hn
          simp only [Option.some.injEq] at hv
          subst hv
          obtain ⟨us, m1, m2, m3, m4, m5⟩ := key_arg hk hkd hy
          obtain ⟨es, clock, e1, e2, e3, e4, e5, e6⟩ := lk_sound (P := P) hR.heap hk hobj m1 m2 hn (fun es => es.isEmpty)
          have hl := e2.at_
          simp only [Array.length_toList] at hl
          have hg : (getObj (g.at_ id).blk).run P w = .ok (.map es clock) w := MapKept.run_getObj_map e1
          have hset : ∀ ob, (setObj (g.at_ id).blk ob).run P w = .ok () { w with heap := w.heap.setIfInBounds (g.at_ id).blk ob } := fun ob => MapKept.run_setObj_map ob e1
          have hpost := post_map hR.heap (es' := es.eraseIdxIfInBounds n) (cl' := clock) hobj e1 (kvs' := kvs.eraseIdx n) (by
            rw [Array.toList_eraseIdxIfInBounds]
            exact EList.erase n e2)
          refine wp_value (v := .tuple #[]) (w' := { w with heap := w.heap.setIfInBounds (g.at_ id).blk (.map (es.eraseIdxIfInBounds n) clock) }) ?_ (hK g _ _ (by simpa [resO, Cop.wr, updL] using hpost) undef_rel)
          by_cases hlt : n < kvs.length
          · obtain ⟨e, q1, q2⟩ := e6 hlt
            simp [execOp, ho, resolve, invoke, builtin, Builtin.delete_, hxv, m3, run_underlying ht, hg, e3, e4, q1, hset]
          · have hnone : es[n]? = none := by rw [Array.getElem?_eq_none_iff]; omega
            have hsame : es.eraseIdxIfInBounds n = es := by
              unfold Array.eraseIdxIfInBounds
              rw [dif_neg (by omega)]
            simp [execOp, ho, resolve, invoke, builtin, Builtin.delete_, hxv, m3, run_underlying ht, hg, e3, e4, hnone, hset, hsame]
        · cases hv
      · cases hv
    | _ => simp [actDel, Cop.ids] at hv
  · cases h

end
end Ab

/-
  Each operation that was compiled is the model's.
-/
namespace Ab
open Go
open Go.RowKit (Below)
set_option linter.unusedVariables false

section
variable {P : Program} {tab : Tab} {o : Oper}

theorem builtin_sound {c : Call} {b : Builtin} {cop : Cop} (ho : o.op = .call c) (hcal : c.callee = .builtin b) (hc : compBuiltin P tab b c.args.toList c.argTypes.toList = some cop) : OkOp P tab o cop := by
  have hargs : ∀ (xs : Array Operand) (ts : Array TypeId), c.args = xs → c.argTypes = ts → o.op = .call { callee := .builtin b, args := xs, argTypes := ts } := by
    rintro _ _ rfl rfl
    rw [ho, ← hcal]
  have ar : ∀ {α : Type} (a : Array α) (l : List α), a.toList = l → a = l.toArray := fun a l h => by rw [← h]
  unfold compBuiltin at hc
  split at hc
  · rename_i x t h1 h2
    have ho' := hargs _ _ (ar _ _ h1) (ar _ _ h2)
    split at hc
    · rename_i hu; exact ok_len0 ho' hu hc
    · rename_i hu; exact ok_len1 ho' hu hc
    · rename_i hu; exact ok_len2 ho' hu hc
    · cases hc
  · rename_i x y t u h1 h2
    have ho' := hargs _ _ (ar _ _ h1) (ar _ _ h2)
    split at hc
    · rename_i e hu
      split at hc
      · rename_i hcond
        simp only [Bool.and_eq_true, decide_eq_true_eq] at hcond
        exact ok_app (ty := o.type) ho' hu hcond.1.1.1 hcond.1.1.2 hcond.1.2 hcond.2 hc
      · cases hc
    · cases hc
  · split at hc
    · split at hc
      · rename_i as has
        simp only [Option.some.injEq] at hc
        subst hc
        exact ok_mm (mx := true) ho hcal has
      · cases hc
    · cases hc
  · split at hc
    · split at hc
      · rename_i as has
        simp only [Option.some.injEq] at hc
        subst hc
        exact ok_mm (mx := false) ho hcal has
      · cases hc
    · cases hc
  · rename_i m k t u h1 h2
    have ho' := hargs _ _ (ar _ _ h1) (ar _ _ h2)
    split at hc
    · rename_i kt et hu
      split at hc
      · rename_i ks hk; exact ok_del ho' hu hk hc
      · cases hc
    · cases hc
  · cases hc

theorem of_not {b : Bool} (h : ¬ (!b) = true) : b = true := by cases b <;> simp_all

theorem okVar_of {t : TypeId} (h : P.cellsOf t ≠ 0 ∧ (isAggT P t = true ∨ P.cellsOf t = 1) ∧ (P.underlying t).isSome = true) : okVar P t := h

theorem act_sound {frz : Bool} {cop : Cop} (h : compOp P tab frz o = some cop) (hn : cop.isCall = false) : OkOp P tab o cop := by
  unfold compOp at h
  split at h
  · rename_i x ho
    cases frz
    · exact ok_mv (.inl ho) h
    · exact ok_frz (.inl ho) h
  · rename_i x ho
    cases frz
    · exact ok_mv (.inr ho) h
    · exact ok_frz (.inr ho) h
  · rename_i c a b ho
    split at h
    · rename_i h1 h2 h3
      simp only [Option.some.injEq] at h; subst h
      exact ok_pick ho h1 h2 h3
    · cases h
  · rename_i t ho
    split at h
    · rename_i z hz
      simp only [Option.some.injEq] at h; subst h
      exact ok_zero ho hz
    · cases h
  · rename_i t x ho; exact ok_box ho h
  · rename_i t ps ho
    split at h
    · rename_i fs z hu hz
      split at h
      · cases h
      · rename_i hall
        split at h
        · rename_i as has
          simp only [Option.some.injEq] at h; subst h
          exact ok_build_struct ho hu (of_not hall) hz has
        · cases h
    · rename_i n e z hu hz
      split at h
      · cases h
      · rename_i hall
        split at h
        · rename_i as has
          simp only [Option.some.injEq] at h; subst h
          exact ok_build_array ho hu (of_not hall) hz has
        · cases h
    · cases h
  · rename_i t n ps ho
    split at h
    · rename_i e hu
      split at h
      · rename_i z hz
        split at h
        · rename_i zd as hzd has
          split at h
          · rename_i hc
            simp only [Option.some.injEq] at h; subst h
            exact ok_bsl ho hu hz hzd has hc.1 hc.2.1 hc.2.2
          · cases h
        · cases h
      · cases h
    · cases h
  · rename_i t a ho
    split at h
    · rename_i hc; exact ok_ld ho (okVar_of hc) h
    · cases h
  · rename_i t a v ho
    split at h
    · rename_i hc; exact ok_st ho hc h
    · cases h
  · rename_i x ho; exact ok_nilc ho h
  · rename_i op t x y u ho
    split at h
    · rename_i hc
      simp only [Bool.and_eq_true] at hc
      have ht : P.underlying t = some .bool := by
        have := hc.1
        unfold isBoolT at this
        split at this
        · assumption
        · cases this
      exact ok_eqb ho ht hc.2 h
    · split at h
      · rename_i hc; exact ok_bin ho hc h
      · split at h
        · rename_i hc
          simp only [Bool.and_eq_true, Bool.not_eq_true'] at hc
          split at h
          · rename_i ks hk; exact ok_eqa ho hc.1.1 hc.1.2 hc.2 hk h
          · cases h
        · split at h
          · rename_i hc
            simp only [Bool.and_eq_true] at hc
            obtain ⟨e, ht⟩ : ∃ e, P.underlying t = some (.slice e) := by
              have := hc.1.2
              unfold isSliceT at this
              split at this
              · exact ⟨_, by assumption⟩
              · cases this
            exact ok_nils ho ht hc.1.1 hc.2 h
          · cases h
  · rename_i op t x ho
    split at h
    · exact ok_un ho h
    · cases h
  · rename_i s t x ho
    split at h
    · rename_i k hu
      split at h
      · rename_i hs; exact ok_conv ho hu hs h
      · cases h
    · rename_i hu
      split at h
      · rename_i hs; exact ok_convStr ho hu hs h
      · split at h
        · rename_i hs; exact ok_bts ho hu hs h
        · cases h
    · cases h
  · rename_i f first cap ho
    split at h
    · rename_i k a c h1 h2 h3
      simp only [Option.some.injEq] at h; subst h
      cases frz
      · exact ok_mkf ho h1 h2 h3
      · exact ok_mkf_frz ho h1 h2 h3
    · cases h
  · rename_i t r ho
    split at h
    · rename_i k e hu
      simp only [Option.some.injEq] at h; subst h
      exact ok_mkm (t := t) (k := k) (e := e) ho
    · cases h
  · rename_i t l c ho
    split at h
    · rename_i e hu
      split at h
      · rename_i z hz
        split at h
        · rename_i zd hzd
          split at h
          · rename_i hc; exact ok_mks ho hu hz hzd hc.1 hc.2.1 hc.2.2 h
          · cases h
        · cases h
      · cases h
    · cases h
  · rename_i t x lo hi ho
    split at h
    · rename_i a l h' h1 h2 h3
      split at h
      · rename_i hu
        simp only [Option.some.injEq] at h; subst h
        exact ok_sls ho hu h1 h2 h3
      · rename_i e hu
        split at h
        · rename_i hz
          simp only [Option.some.injEq] at h; subst h
          exact ok_slc ho hu hz h1 h2 h3
        · cases h
      · cases h
    · cases h
  · rename_i t x f ho
    split at h
    · rename_i fs hu
      split at h
      · rename_i fl hf
        split at h
        · rename_i hc; exact ok_fa ho hu hf hc.1 h
        · cases h
      · cases h
    · cases h
  · rename_i t x f ho
    split at h
    · rename_i fs hu
      split at h
      · rename_i fl hf
        split at h
        · rename_i hc; exact ok_fl ho hu hf (okVar_of hc) h
        · cases h
      · cases h
    · cases h
  · rename_i t x i ho
    split at h
    · rename_i e hu
      split at h
      · rename_i hc; exact ok_ia ho hu hc h
      · cases h
    · rename_i n e hu
      split at h
      · rename_i hc; exact ok_iaa ho hu hc h
      · cases h
    · cases h
  · rename_i t x i ho
    split at h
    · rename_i hu; exact ok_ixs ho hu h
    · rename_i n e hu
      split at h
      · rename_i hc; exact ok_ixa ho hu (okVar_of hc) h
      · cases h
    · cases h
  · rename_i t m k ok ho
    split at h
    · rename_i kt et hu
      split at h
      · rename_i z hz
        split at h
        · rename_i ks hk; exact ok_lk ho hu hz hk h
        · cases h
      · cases h
    · cases h
  · rename_i t m k x ho
    split at h
    · rename_i kt et hu
      split at h
      · rename_i ks m' k' x' h1 h2 h3 h4
        simp only [Option.some.injEq] at h; subst h
        exact ok_mu (.inl ho) hu h1 h2 h3 h4
      · cases h
    · cases h
  · rename_i t m k x ho
    split at h
    · rename_i kt et hu
      split at h
      · rename_i ks m' k' x' h1 h2 h3 h4
        simp only [Option.some.injEq] at h; subst h
        exact ok_mu (.inr ho) hu h1 h2 h3 h4
      · cases h
    · cases h
  · rename_i x i ho; exact ok_ext ho h
  · rename_i c ho
    split at h
    · rename_i b hcal; exact builtin_sound ho hcal h
    · rename_i f hcal
      split at h
      · rename_i k as h1 h2
        simp only [Option.some.injEq] at h; subst h
        cases hn
      · cases h
    · rename_i x _ hcal
      split at h
      · rename_i f as h1 h2
        simp only [Option.some.injEq] at h; subst h
        cases hn
      · cases h
    · cases h
  · cases h

/-- what a call enters, the model's call enters. -/
theorem enter_sound (hB : BodyOk P tab) {frz : Bool} {cop : Cop} (h : compOp P tab frz o = some cop) (hn : cop.isCall = true) {nt : Nat} {g : Gh} {get : Nat → V} {obj : Nat → Option Obj} {a : Act} {w : World} (hR : Rel tab nt g get obj a w)
    {key res : Nat} {args : List V} {fz : Bool} (he : callee cop (cop.args.map (evA get)) = some (key, args, res, fz)) :
    ∃ f us, keyOf tab f = some key ∧ VList tab g obj w args us ∧ (execOp a.eval o).run P w = .ok (.enter f us.toArray) w := by
  have call1 : ∀ (c : Call) (f : FuncId) (k : Nat) (as : List A) (r : Nat) (z : Bool), o.op = .call c → c.callee = .value (.func f) → keyOf tab f = some k → compAs P tab (c.argTypes.toList.map some) c.args.toList = some as → cop = .call k as r z →
      ∃ f us, keyOf tab f = some key ∧ VList tab g obj w args us ∧ (execOp a.eval o).run P w = .ok (.enter f us.toArray) w := by
    rintro c f k as r z ho hcal hk hc rfl
    have hv := compAs_rel (w := w) hc hR.tmp
    simp only [Cop.args, callee, Option.some.injEq, Prod.mk.injEq] at he
    obtain ⟨rfl, rfl, rfl, rfl⟩ := he
    refine ⟨f, _, hk, hv, ?_⟩
    have hargs : (c.args.map a.eval) = (c.args.toList.map a.eval).toArray := by apply Array.ext'; simp
    simp [execOp, ho, resolve, hcal, Act.eval, Deferred.ofValue, invoke, hB f k hk, hargs]
  have call2 : ∀ (c : Call) (x : Operand) (f : A) (as : List A) (r : Nat) (z : Bool), o.op = .call c → c.callee = .value x → compA P tab none x = some f → compAs P tab (c.argTypes.toList.map some) c.args.toList = some as → cop = .callv f as r z →
      ∃ f us, keyOf tab f = some key ∧ VList tab g obj w args us ∧ (execOp a.eval o).run P w = .ok (.enter f us.toArray) w := by
    rintro c x f as r z ho hcal hx hc rfl
    have hv := compAs_rel (w := w) hc hR.tmp
    have hxv := compA_rel (w := w) hx hR.tmp
    have hargs : (c.args.map a.eval) = (c.args.toList.map a.eval).toArray := by apply Array.ext'; simp
    simp only [Cop.args, List.map_cons] at he
    generalize evA get f = fv at he hxv
    cases fv with
    | d d =>
      cases d with
      | f key' first cap =>
        simp only [callee, Option.some.injEq, Prod.mk.injEq] at he
        obtain ⟨rfl, rfl, rfl, rfl⟩ := he
        simp only [VRel, DRel] at hxv
        obtain ⟨fid, fs, cs, k1, k2, k3, k4⟩ := hxv
        refine ⟨fid, fs ++ c.args.toList.map a.eval ++ cs, k1, ((VList.ofDs (g := g) k3).append hv).append (VList.ofDs (g := g) k4), ?_⟩
        simp [execOp, ho, resolve, hcal, k2, Deferred.ofValue, invoke, hB fid key' k1, hargs]
      | _ => simp [callee] at he
    | fn key' first cap =>
      simp only [callee, Option.some.injEq, Prod.mk.injEq] at he
      obtain ⟨rfl, rfl, rfl, rfl⟩ := he
      simp only [VRel] at hxv
      obtain ⟨fid, fs, cs, k1, k2, k3, k4⟩ := hxv
      refine ⟨fid, fs ++ c.args.toList.map a.eval ++ cs, k1, (k3.append hv).append k4, ?_⟩
      simp [execOp, ho, resolve, hcal, k2, Deferred.ofValue, invoke, hB fid key' k1, hargs]
    | _ => simp [callee] at he
  unfold compOp at h
  split at h
  case h_26 c ho =>
    split at h
    · rename_i b hcal
      exfalso
      unfold compBuiltin at h
      (repeat' split at h) <;> first | (cases h; done) | (simp only [Option.some.injEq] at h; subst h; cases hn; done) | (obtain ⟨_, _, rfl⟩ := un1_rel h; cases hn; done) | (obtain ⟨_, _, _, _, rfl⟩ := bi2_rel h; cases hn; done)
    · rename_i f hcal
      split at h
      · rename_i k as h1 h2
        simp only [Option.some.injEq] at h
        exact call1 c f k as _ _ ho hcal h1 h2 h.symm
      · cases h
    · rename_i x _ hcal
      split at h
      · rename_i f as h1 h2
        simp only [Option.some.injEq] at h
        exact call2 c x f as _ _ ho hcal h1 h2 h.symm
      · cases h
    · cases h
  all_goals exfalso
  all_goals ((repeat' split at h) <;> first | (cases h; done) | (simp only [Option.some.injEq] at h; subst h; cases hn; done) | (obtain ⟨_, _, rfl⟩ := un1_rel h; cases hn; done) | (obtain ⟨_, _, _, _, rfl⟩ := bi2_rel h; cases hn; done))

end
end Ab

/-
  What is handed to a call, and comes back: other numbers of objects.
-/
namespace Ab
open Go
open Go.RowKit (Below)
set_option linter.unusedVariables false

/-! ### what is reached -/

theorem placeOf_get : ∀ {L : List Nat} {i : Nat}, i ∈ L → L[placeOf L i]? = some i
  | x :: r, i, h => by
    simp only [placeOf]
    split
    · rename_i e; subst e; rfl
    · rename_i e
      rcases List.mem_cons.1 h with h | h
      · exact absurd h.symm e
      · simpa using placeOf_get h

theorem placeOf_lt {L : List Nat} {i : Nat} (h : i ∈ L) : placeOf L i < L.length := by
  have := placeOf_get h
  rcases Nat.lt_or_ge (placeOf L i) L.length with h | h
  · exact h
  · rw [List.getElem?_eq_none h] at this; cases this

theorem nodup_get {L : List Nat} (h : L.Nodup) {i j x : Nat} (hi : L[i]? = some x) (hj : L[j]? = some x) : i = j := by
  obtain ⟨h1, h2⟩ := List.getElem?_eq_some_iff.1 hi
  obtain ⟨h3, h4⟩ := List.getElem?_eq_some_iff.1 hj
  exact (List.nodup_iff_pairwise_ne.1 h |> fun hp => by
    rcases Nat.lt_trichotomy i j with hlt | rfl | hlt
    · exact absurd (h2.trans h4.symm) (List.pairwise_iff_getElem.1 hp i j h1 h3 hlt)
    · rfl
    · exact absurd (h4.trans h2.symm) (List.pairwise_iff_getElem.1 hp j i h3 h1 hlt))

theorem placeOf_at {L : List Nat} (h : L.Nodup) {i x : Nat} (hi : L[i]? = some x) : placeOf L x = i :=
  nodup_get h (placeOf_get (List.mem_of_getElem? hi)) hi

section
variable {obj : Nat → Option Obj}

theorem reach_ok : ∀ (f : Nat) (todo done L : List Nat), reach obj f todo done = some L → done.Nodup →
    (∀ i ∈ done, ∀ j ∈ Obj.refs (obj i), j ∈ done ∨ j ∈ todo) →
    (∃ more, L = done ++ more) ∧ L.Nodup ∧ (∀ i ∈ todo, i ∈ L) ∧ (∀ i ∈ L, ∀ j ∈ Obj.refs (obj i), j ∈ L)
  | f, [], done, L, h, hn, hc => by
    simp only [reach, Option.some.injEq] at h
    subst h
    exact ⟨⟨[], by simp⟩, hn, by simp, fun i hi j hj => by have := hc i hi j hj; simpa using this⟩
  | 0, _ :: _, done, L, h, hn, hc => by simp [reach] at h
  | f + 1, i :: r, done, L, h, hn, hc => by
    simp only [reach] at h
    split at h
    · rename_i hin
      have hin : i ∈ done := by simpa using hin
      obtain ⟨k1, k2, k3, k4⟩ := reach_ok f r done L h hn (fun a ha j hj => by
        rcases hc a ha j hj with h | h
        · exact .inl h
        · rcases List.mem_cons.1 h with h | h
          · subst h; exact .inl hin
          · exact .inr h)
      refine ⟨k1, k2, fun a ha => ?_, k4⟩
      rcases List.mem_cons.1 ha with h | h
      · subst h
        obtain ⟨m, rfl⟩ := k1
        exact List.mem_append.2 (.inl hin)
      · exact k3 a h
    · rename_i hin
      have hin : i ∉ done := by simpa using hin
      obtain ⟨⟨m, k1⟩, k2, k3, k4⟩ := reach_ok f (r ++ Obj.refs (obj i)) (done ++ [i]) L h
        (by rw [List.nodup_append]; exact ⟨hn, by simp, fun a ha b hb => by simp only [List.mem_singleton] at hb; subst hb; intro e; subst e; exact hin ha⟩)
        (fun a ha j hj => by
          rcases List.mem_append.1 ha with h | h
          · rcases hc a h j hj with h | h
            · exact .inl (List.mem_append.2 (.inl h))
            · rcases List.mem_cons.1 h with h | h
              · subst h; exact .inl (by simp)
              · exact .inr (List.mem_append.2 (.inl h))
          · simp only [List.mem_singleton] at h
            subst h
            exact .inr (List.mem_append.2 (.inr hj)))
      refine ⟨⟨[i] ++ m, by rw [k1, List.append_assoc]⟩, k2, fun a ha => ?_, k4⟩
      rcases List.mem_cons.1 ha with h | h
      · subst h; rw [k1]; simp
      · exact k3 a (List.mem_append.2 (.inl h))

/-- a search looks at what it finds alone. -/
theorem reach_congr {obj' : Nat → Option Obj} : ∀ (f : Nat) (todo done L : List Nat), reach obj' f todo done = some L → (∀ i ∈ L, obj i = obj' i) → (∀ i ∈ done, ∀ L', reach obj' f todo done = some L' → i ∈ L') → reach obj f todo done = some L
  | f, [], done, L, h, hL, _ => by simpa only [reach] using h
  | 0, _ :: _, done, L, h, hL, _ => by simp [reach] at h
  | f + 1, i :: r, done, L, h, hL, hd => by
    simp only [reach] at h ⊢
    split at h
    · rename_i hin
      rw [if_pos hin]
      exact reach_congr f r done L h hL (fun a ha L' hL' => hd a ha L' (by simp only [reach]; rw [if_pos hin]; exact hL'))
    · rename_i hin
      rw [if_neg hin]
      have pre : ∀ (f : Nat) (todo done L : List Nat), reach obj' f todo done = some L → ∃ m, L = done ++ m := by
        intro f
        induction f with
        | zero => intro todo done L h; cases todo with | nil => simp only [reach, Option.some.injEq] at h; subst h; exact ⟨[], by simp⟩ | cons => simp [reach] at h
        | succ f ih =>
          intro todo done L h
          cases todo with
          | nil => simp only [reach, Option.some.injEq] at h; subst h; exact ⟨[], by simp⟩
          | cons x todo =>
            simp only [reach] at h
            split at h
            · exact ih _ _ _ h
            · obtain ⟨m, hm⟩ := ih _ _ _ h
              exact ⟨[x] ++ m, by rw [hm, List.append_assoc]⟩
      have hi : i ∈ L := by
        obtain ⟨m, hm⟩ := pre _ _ _ _ h
        rw [hm]; simp
      rw [hL i hi]
      exact reach_congr f _ _ L h hL (fun a ha L' hL' => by
        obtain ⟨m, hm⟩ := pre _ _ _ _ hL'
        rw [hm]; exact List.mem_append.2 (.inl ha))

/-- where a search begins with the first numbers, it finds them first. -/
theorem reach_range : ∀ (n f k : Nat) (rest L : List Nat), reach obj f (List.range' k n ++ rest) (List.range k) = some L → ∃ more, L = List.range (k + n) ++ more
  | 0, f, k, rest, L, h => by
    simp only [List.range'_zero, List.nil_append] at h
    have pre : ∀ (f : Nat) (todo done L : List Nat), reach obj f todo done = some L → ∃ m, L = done ++ m := by
      intro f
      induction f with
      | zero => intro todo done L h; cases todo with | nil => simp only [reach, Option.some.injEq] at h; subst h; exact ⟨[], by simp⟩ | cons => simp [reach] at h
      | succ f ih =>
        intro todo done L h
        cases todo with
        | nil => simp only [reach, Option.some.injEq] at h; subst h; exact ⟨[], by simp⟩
        | cons x todo =>
          simp only [reach] at h
          split at h
          · exact ih _ _ _ h
          · obtain ⟨m, hm⟩ := ih _ _ _ h
            exact ⟨[x] ++ m, by rw [hm, List.append_assoc]⟩
    simpa using pre _ _ _ _ h
  | n + 1, 0, k, rest, L, h => by simp [List.range'_succ, reach] at h
  | n + 1, f + 1, k, rest, L, h => by
    rw [List.range'_succ] at h
    simp only [List.cons_append, reach] at h
    rw [if_neg (by simp)] at h
    rw [List.append_assoc, show List.range k ++ [k] = List.range (k + 1) from (List.range_succ ..).symm] at h
    have := reach_range n f (k + 1) _ L h
    rwa [show k + 1 + n = k + (n + 1) by omega] at this
end

/-! ### objects told with other numbers -/

theorem renObjs_ok {f sh : Nat → Nat} : ∀ (os : List (Option Obj)) (k : Nat) (os' : List (Option Obj)), renObjs f sh k os = some os' → os'.length = os.length ∧ ∀ i, i < os.length → ∃ o, os[i]? = some (some o) ∧ os'[i]? = some (some (Obj.ren f sh (sh (k + i)) o))
  | [], k, os', h => by
    simp only [renObjs, Option.some.injEq] at h
    subst h
    exact ⟨rfl, fun i hi => by simp at hi⟩
  | none :: r, k, os', h => by simp [renObjs] at h
  | some o :: r, k, os', h => by
    simp only [renObjs] at h
    split at h
    · rename_i r' hr'
      simp only [Option.some.injEq] at h
      subst h
      obtain ⟨k1, k2⟩ := renObjs_ok r (k + 1) r' hr'
      refine ⟨by simp [k1], fun i hi => ?_⟩
      cases i with
      | zero => exact ⟨o, rfl, rfl⟩
      | succ i =>
        obtain ⟨o', m1, m2⟩ := k2 i (by simpa using hi)
        refine ⟨o', by simpa using m1, ?_⟩
        rw [show k + (i + 1) = k + 1 + i by omega]
        simpa using m2
    · cases h

section
variable {tab : Tab} {g g2 : Gh} {obj obj2 : Nat → Option Obj} {w : World} {f sh : Nat → Nat}

/-- an object lies there under another number. -/
def Corr (g g2 : Gh) (obj obj2 : Nat → Option Obj) (f sh : Nat → Nat) (i : Nat) : Prop := ∀ o, obj i = some o → obj2 (f i) = some (Obj.ren f sh (sh i) o) ∧ g2.at_ (f i) = g.at_ i

theorem renAll_length : ∀ (cs : List V), (V.renAll f sh cs).length = cs.length
  | [] => rfl
  | c :: cs => by simp [V.renAll, renAll_length cs]

theorem renRows_length : ∀ (xs : List (List V)), (renRows f sh xs).length = xs.length
  | [] => rfl
  | r :: rs => by simp [renRows, renRows_length rs]

theorem renAll_eq : ∀ (xs : List V), V.renAll f sh xs = xs.map (V.ren f sh)
  | [] => rfl
  | r :: rs => by simp [V.renAll, renAll_eq rs]

theorem renRows_eq : ∀ (xs : List (List V)), renRows f sh xs = xs.map (V.renAll f sh)
  | [] => rfl
  | r :: rs => by simp [renRows, renRows_eq rs]

theorem mem_refsAll : ∀ {xs : List V} {x : V} {i : Nat}, x ∈ xs → i ∈ V.refs x → i ∈ V.refsAll xs
  | y :: xs, x, i, h, hi => by
    simp only [V.refsAll, List.mem_append]
    rcases List.mem_cons.1 h with rfl | h
    · exact .inl hi
    · exact .inr (mem_refsAll h hi)

theorem mem_refsRows : ∀ {xs : List (List V)} {r : List V} {i : Nat}, r ∈ xs → i ∈ V.refsAll r → i ∈ refsRows xs
  | y :: xs, x, i, h, hi => by
    simp only [refsRows, List.mem_append]
    rcases List.mem_cons.1 h with rfl | h
    · exact .inl hi
    · exact .inr (mem_refsRows h hi)

mutual
theorem VRel.ren (hi : g2.im = g.im) : ∀ (x : V) (v : Value), (∀ i ∈ V.refs x, Corr g g2 obj obj2 f sh i) → VRel tab g obj w x v → VRel tab g2 obj2 w (V.ren f sh x) v
  | .d x, v, hc, h => by simp only [V.ren, VRel] at *; rw [hi]; exact h
  | .nil _, v, hc, h => by simp only [V.ren, VRel] at *; exact h
  | .own id ver sz xs, v, hc, h => by
    simp only [V.ren, VRel] at *
    obtain ⟨h1, v1, s1, h2, h3, h4⟩ := h
    obtain ⟨k1, k2⟩ := hc id (by simp [V.refs]) _ h2
    refine ⟨by rw [hi]; exact h1, v1 + sh id, s1, k1, by omega, fun e => ?_⟩
    rw [k2]
    exact h4 (by omega)
  | .arr id ver off len, v, hc, h => by
    simp only [V.ren, VRel] at *
    obtain ⟨h0, v1, s1, xs, h2, h3, h4⟩ := h
    obtain ⟨k1, k2⟩ := hc id (by simp [V.refs]) _ h2
    refine ⟨h0, v1, s1, _, k1, h3, fun e => ?_⟩
    rw [k2, renRows_length]
    exact h4 e
  | .ptr id off, v, hc, h => by
    simp only [V.ren, VRel] at *
    obtain ⟨h1, h2⟩ := h
    rcases h1 with ⟨cs, h1⟩ | ⟨ds, h1⟩
    · obtain ⟨k1, k2⟩ := hc id (by simp [V.refs]) _ h1
      exact ⟨.inl ⟨_, k1⟩, by rw [k2]; exact h2⟩
    · obtain ⟨k1, k2⟩ := hc id (by simp [V.refs]) _ h1
      exact ⟨.inr ⟨_, k1⟩, by rw [k2]; exact h2⟩
  | .pm id ver idx off, v, hc, h => by
    simp only [V.ren, VRel] at *
    obtain ⟨h0, v1, s1, xs, h2, h3, h4⟩ := h
    obtain ⟨k1, k2⟩ := hc id (by simp [V.refs]) _ h2
    refine ⟨h0, v1, s1, _, k1, h3, fun e => ?_⟩
    rw [k2]
    exact h4 e
  | .map id, v, hc, h => by
    simp only [V.ren, VRel] at *
    obtain ⟨⟨kvs, h1⟩, h2⟩ := h
    obtain ⟨k1, k2⟩ := hc id (by simp [V.refs]) _ h1
    exact ⟨⟨_, k1⟩, by rw [k2]; exact h2⟩
  | .fn key a c, v, hc, h => by
    simp only [V.refs, List.mem_append] at hc
    simp only [V.ren, VRel] at *
    obtain ⟨fid, fs, cs, h1, h2, h3, h4⟩ := h
    exact ⟨fid, fs, cs, h1, h2, VList.ren hi a fs (fun i hi => hc i (.inl hi)) h3, VList.ren hi c cs (fun i hi => hc i (.inr hi)) h4⟩
  | .agg cs, v, hc, h => by
    simp only [V.refs] at hc
    simp only [V.ren, VRel] at *
    obtain ⟨vs, h1, h2⟩ := h
    exact ⟨vs, h1, CList.ren hi cs vs hc h2⟩
  | .tup ws, v, hc, h => by
    simp only [V.refs] at hc
    simp only [V.ren, VRel] at *
    obtain ⟨vs, h1, h2⟩ := h
    exact ⟨vs, h1, VList.ren hi ws vs hc h2⟩
  | .bad, v, _, _ => by simp only [V.ren, VRel]
theorem VList.ren (hi : g2.im = g.im) : ∀ (xs : List V) (vs : List Value), (∀ i ∈ V.refsAll xs, Corr g g2 obj obj2 f sh i) → VList tab g obj w xs vs → VList tab g2 obj2 w (V.renAll f sh xs) vs
  | [], [], _, _ => by simp only [V.renAll, VList]
  | x :: xs, v :: vs, hc, h => by
    simp only [V.refsAll, List.mem_append] at hc
    simp only [V.renAll, VList] at *
    exact ⟨VRel.ren hi x v (fun i hi => hc i (.inl hi)) h.1, VList.ren hi xs vs (fun i hi => hc i (.inr hi)) h.2⟩
  | [], _ :: _, _, h => by simp only [VList] at h
  | _ :: _, [], _, h => by simp only [VList] at h
theorem CList.ren (hi : g2.im = g.im) : ∀ (xs : List V) (vs : List Value), (∀ i ∈ V.refsAll xs, Corr g g2 obj obj2 f sh i) → CList tab g obj w xs vs → CList tab g2 obj2 w (V.renAll f sh xs) vs
  | [], [], _, _ => by simp only [V.renAll, CList]
  | x :: xs, v :: vs, hc, h => by
    simp only [V.refsAll, List.mem_append] at hc
    simp only [V.renAll, CList] at *
    exact ⟨VRel.ren hi x v (fun i hi => hc i (.inl hi)) h.1, h.2.1, CList.ren hi xs vs (fun i hi => hc i (.inr hi)) h.2.2⟩
  | [], _ :: _, _, h => by simp only [CList] at h
  | _ :: _, [], _, h => by simp only [CList] at h
end

theorem EList.ren (hi : g2.im = g.im) : ∀ (xs : List (List D × V)) (vs : List MapEntry), (∀ i ∈ refsKvs xs, Corr g g2 obj obj2 f sh i) → EList tab g obj w xs vs → EList tab g2 obj2 w (renKvs f sh xs) vs
  | [], [], _, _ => by simp only [renKvs, EList]
  | (k, x) :: xs, v :: vs, hc, h => by
    simp only [refsKvs, List.mem_append] at hc
    simp only [renKvs, EList] at *
    rw [hi]
    exact ⟨h.1, VRel.ren hi x v.val (fun i hi => hc i (.inl hi)) h.2.1, EList.ren hi xs vs (fun i hi => hc i (.inr hi)) h.2.2⟩
  | [], _ :: _, _, h => by simp only [EList] at h
  | (_, _) :: _, [], _, h => by simp only [EList] at h

theorem ORel.ren (hi : g2.im = g.im) {p : Place} {o : Obj} {s : Nat} (hc : ∀ i ∈ Obj.refs (some o), Corr g g2 obj obj2 f sh i) (h : ORel tab g obj w p o) : ORel tab g2 obj2 w p (Obj.ren f sh s o) := by
  cases o with
  | box cs =>
    obtain ⟨h1, us, h2, h3⟩ := h
    exact ⟨by rw [renAll_length]; exact h1, us, CList.ren hi cs us hc h2, h3⟩
  | cst ds => simp only [Obj.ren, ORel] at *; rw [hi]; exact h
  | tok v sz => exact h
  | arr v sz xs =>
    obtain ⟨h1, h2, h3, h4⟩ := h
    refine ⟨fun r hr => ?_, by rw [renRows_length]; exact h2, h3, fun i r q x h5 h6 => ?_⟩
    · rw [renRows_eq] at hr
      obtain ⟨r', k1, rfl⟩ := List.mem_map.1 hr
      rw [renAll_length]; exact h1 r' k1
    · rw [renRows_eq, List.getElem?_map] at h5
      obtain ⟨r', k1, rfl⟩ := Option.map_eq_some_iff.1 h5
      rw [renAll_eq, List.getElem?_map] at h6
      obtain ⟨x', k2, rfl⟩ := Option.map_eq_some_iff.1 h6
      obtain ⟨u, k3, k4, k5⟩ := h4 i r' q x' k1 k2
      exact ⟨u, k3, VRel.ren hi x' u (fun j hj => hc j (mem_refsRows (List.mem_of_getElem? k1) (mem_refsAll (List.mem_of_getElem? k2) hj))) k4, k5⟩
  | map kvs =>
    obtain ⟨es, cl, h1, h2⟩ := h
    exact ⟨es, cl, h1, EList.ren hi kvs _ hc h2⟩

theorem ren_isMap (o : Obj) (s : Nat) : (∃ kvs, Obj.ren f sh s o = .map kvs) ↔ ∃ kvs, o = .map kvs := by
  cases o <;> simp [Obj.ren]

/-- the same cells. -/
theorem owns_ren {i j s : Nat} {o : Obj} (h1 : obj i = some o) (h2 : obj2 j = some (Obj.ren f sh s o)) (h3 : g2.at_ j = g.at_ i) (b q : Nat) : owns g2 obj2 j b q ↔ owns g obj i b q := by
  unfold owns
  rw [h1, h2, h3]
  cases o <;> exact Iff.rfl

theorem mapOf_ren {i j s : Nat} {o : Obj} (h1 : obj i = some o) (h2 : obj2 j = some (Obj.ren f sh s o)) (h : ∀ kvs, obj2 j ≠ some (.map kvs)) : ∀ kvs, obj i ≠ some (.map kvs) := by
  rw [h1]; rw [h2] at h
  cases o with
  | map kvs => exact absurd rfl (h _)
  | _ => simp

/-- objects that speak of one another alone, told by themselves. -/
theorem hrel_sub1 (hH : HRel tab g obj w) {L : List Nat} (hn : L.Nodup) (hcl : ∀ i ∈ L, ∀ j ∈ Obj.refs (obj i), j ∈ L) {h : List (Option Obj)} (hr : renObjs (placeOf L) noShift 0 (L.map obj) = some h) :
    HRel tab ⟨fun i => g.at_ (L.getD i 0), g.im⟩ (objOf h) w ∧ (∀ i ∈ L, Corr g ⟨fun i => g.at_ (L.getD i 0), g.im⟩ obj (objOf h) (placeOf L) noShift i) ∧
      h.length = L.length ∧ (∀ k i, L[k]? = some i → ∃ o, obj i = some o ∧ objOf h k = some (Obj.ren (placeOf L) noShift 0 o)) ∧
      (∀ k b q, owns ⟨fun i => g.at_ (L.getD i 0), g.im⟩ (objOf h) k b q → ∃ i, L[k]? = some i ∧ owns g obj i b q) := by
  obtain ⟨hlen, hget⟩ := renObjs_ok _ _ _ hr
  simp only [List.length_map] at hlen hget
  have ob : ∀ k i, L[k]? = some i → ∃ o, obj i = some o ∧ objOf h k = some (Obj.ren (placeOf L) noShift 0 o) := fun k i hk => by
    obtain ⟨hlt, _⟩ := List.getElem?_eq_some_iff.1 hk
    obtain ⟨o, h1, h2⟩ := hget k hlt
    rw [List.getElem?_map, hk] at h1
    simp only [Option.map_some, Option.some.injEq] at h1
    exact ⟨o, h1, by unfold objOf; rw [h2]; rfl⟩
  have at1 : ∀ k i, L[k]? = some i → g.at_ (L.getD k 0) = g.at_ i := fun k i hk => by rw [List.getD_eq_getElem?_getD, hk]; rfl
  have back : ∀ k o, objOf h k = some o → ∃ i o', L[k]? = some i ∧ obj i = some o' ∧ o = Obj.ren (placeOf L) noShift 0 o' := fun k o hk => by
    rcases Nat.lt_or_ge k L.length with hlt | hge
    · have hk' : L[k]? = some L[k] := List.getElem?_eq_getElem hlt
      obtain ⟨o', h1, h2⟩ := ob k _ hk'
      rw [h2] at hk
      exact ⟨_, o', hk', h1, (Option.some.inj hk).symm⟩
    · unfold objOf at hk
      rw [List.getElem?_eq_none (by omega)] at hk; cases hk
  have corr : ∀ i ∈ L, Corr g ⟨fun i => g.at_ (L.getD i 0), g.im⟩ obj (objOf h) (placeOf L) noShift i := fun i hi o ho => by
    have hp := placeOf_get hi
    obtain ⟨o', h1, h2⟩ := ob _ _ hp
    rw [ho] at h1; cases h1
    exact ⟨h2, at1 _ _ hp⟩
  have own : ∀ k b q, owns ⟨fun i => g.at_ (L.getD i 0), g.im⟩ (objOf h) k b q → ∃ i, L[k]? = some i ∧ owns g obj i b q := fun k b q hk => by
    cases ho : objOf h k with
    | none => unfold owns at hk; rw [ho] at hk; exact hk.elim
    | some o =>
      obtain ⟨i, o', h1, h2, rfl⟩ := back k o ho
      exact ⟨i, h1, (owns_ren (g := g) (g2 := ⟨fun i => g.at_ (L.getD i 0), g.im⟩) h2 ho (at1 k i h1) b q).1 hk⟩
  refine ⟨⟨fun k o hk => ?_, fun k b q hk => ?_, fun k k' b q hk hk' => ?_, fun k b q hk => ?_, fun k b q hk hm => ?_, hH.imOld⟩, corr, hlen, ob, own⟩
  · obtain ⟨i, o', h1, h2, rfl⟩ := back k o hk
    have := hH.ob i o' h2
    show ORel _ _ _ _ (g.at_ (L.getD k 0)) _
    rw [at1 k i h1]
    exact ORel.ren (g := g) (obj := obj) (g2 := ⟨fun i => g.at_ (L.getD i 0), g.im⟩) rfl (fun j hj => corr j (hcl i (List.mem_of_getElem? h1) j (by rw [h2]; exact hj))) this
  · obtain ⟨i, h1, h2⟩ := own k b q hk
    exact hH.imm i b q h2
  · obtain ⟨i, h1, h2⟩ := own k b q hk
    obtain ⟨i', h1', h2'⟩ := own k' b q hk'
    have := hH.one i i' b q h2 h2'
    subst this
    exact nodup_get hn h1 h1'
  · obtain ⟨i, h1, h2⟩ := own k b q hk
    exact hH.old i b q h2
  · obtain ⟨i, h1, h2⟩ := own k b q hk
    obtain ⟨o, h3, h4⟩ := ob k i h1
    exact hH.frz i b q h2 (mapOf_ren h3 h4 hm)

end
end Ab

/-
  A call that was entered: what it turned, told by its caller.
-/
namespace Ab
open Go
open Go.RowKit (Below)
set_option linter.unusedVariables false

section
variable {P : Program} {tab : Tab} {g : Gh} {obj : Nat → Option Obj} {w : World}

mutual
theorem hand_rel : ∀ (x y : V) (v : Value), V.hand x = some y → VRel tab g obj w x v → VRel tab g obj w y v
  | .d x, y, v, hh, h => by simp only [V.hand, Option.some.injEq] at hh; subst hh; exact h
  | .nil sz, y, v, hh, h => by
    simp only [V.hand, Option.some.injEq] at hh
    subst hh
    simp only [VRel, DRel] at *
    subst h
    exact ⟨none, 0, rfl, Nat.le_refl _, by simp, .inl trivial⟩
  | .own id ver sz xs, y, v, hh, h => by
    simp only [V.hand, Option.some.injEq] at hh
    subst hh
    simp only [VRel] at *
    exact h.1
  | .fn key a c, y, v, hh, h => by
    simp only [V.hand] at hh
    split at hh
    · rename_i a' c' h1 h2
      simp only [Option.some.injEq] at hh
      subst hh
      simp only [VRel, DRel] at *
      obtain ⟨fid, fs, cs, k1, k2, k3, k4⟩ := h
      exact ⟨fid, fs, cs, k1, k2, toDs_rel h1 k3, toDs_rel h2 k4⟩
    · split at hh
      · rename_i a' c' h1 h2
        simp only [Option.some.injEq] at hh
        subst hh
        simp only [VRel] at *
        obtain ⟨fid, fs, cs, k1, k2, k3, k4⟩ := h
        exact ⟨fid, fs, cs, k1, k2, handAll_rel a a' fs h1 k3, handAll_rel c c' cs h2 k4⟩
      · cases hh
  | .agg cs, y, v, hh, h => by
    simp only [V.hand] at hh
    split at hh
    · rename_i cs' h1
      simp only [Option.some.injEq] at hh
      subst hh
      simp only [VRel] at *
      obtain ⟨vs, k1, k2⟩ := h
      exact ⟨vs, k1, handCells_rel cs cs' vs h1 k2⟩
    · cases hh
  | .arr id ver off len, y, v, hh, h => by simp only [V.hand, Option.some.injEq] at hh; subst hh; exact h
  | .ptr id off, y, v, hh, h => by simp only [V.hand, Option.some.injEq] at hh; subst hh; exact h
  | .pm id ver idx off, y, v, hh, h => by simp only [V.hand, Option.some.injEq] at hh; subst hh; exact h
  | .map id, y, v, hh, h => by simp only [V.hand, Option.some.injEq] at hh; subst hh; exact h
  | .tup _, y, v, hh, h => by simp only [V.hand] at hh; cases hh
  | .bad, y, v, hh, h => by simp only [V.hand] at hh; cases hh
theorem handAll_rel : ∀ (xs ys : List V) (vs : List Value), V.handAll xs = some ys → VList tab g obj w xs vs → VList tab g obj w ys vs
  | [], ys, vs, hh, h => by simp only [V.handAll, Option.some.injEq] at hh; subst hh; exact h
  | x :: xs, ys, [], hh, h => by simp only [VList] at h
  | x :: xs, ys, v :: vs, hh, h => by
    simp only [V.handAll] at hh
    split at hh
    · rename_i y ys' h1 h2
      simp only [Option.some.injEq] at hh
      subst hh
      simp only [VList] at *
      exact ⟨hand_rel x y v h1 h.1, handAll_rel xs ys' vs h2 h.2⟩
    · cases hh
theorem handCells_rel : ∀ (xs ys : List V) (vs : List Value), V.handAll xs = some ys → CList tab g obj w xs vs → CList tab g obj w ys vs
  | [], ys, vs, hh, h => by simp only [V.handAll, Option.some.injEq] at hh; subst hh; exact h
  | x :: xs, ys, [], hh, h => by simp only [CList] at h
  | x :: xs, ys, v :: vs, hh, h => by
    simp only [V.handAll] at hh
    split at hh
    · rename_i y ys' h1 h2
      simp only [Option.some.injEq] at hh
      subst hh
      simp only [CList] at *
      exact ⟨hand_rel x y v h1 h.1, h.2.1, handCells_rel xs ys' vs h2 h.2.2⟩
    · cases hh
end

theorem updL_un {t : Nat} : ∀ (is : List Nat) (os : List (Option Obj)) (x : Nat → Option Obj), t ∉ is → updL x is os t = x t
  | [], _, _, _ => by simp [updL]
  | _ :: _, [], _, _ => by simp [updL]
  | i :: is, o :: os, x, h => by
    simp only [updL]
    simp only [List.mem_cons, not_or] at h
    rw [updL_un is os _ h.2, updO_ne _ _ h.1]

theorem updL_at : ∀ (is : List Nat) (os : List (Option Obj)) (x : Nat → Option Obj) (k i : Nat) (o : Option Obj), is.Nodup → is[k]? = some i → os[k]? = some o → updL x is os i = o
  | [], _, _, _, _, _, _, h, _ => by simp at h
  | _ :: _, [], _, _, _, _, _, _, h => by simp at h
  | a :: is, b :: os, x, 0, i, o, hn, h1, h2 => by
    simp only [List.getElem?_cons_zero, Option.some.injEq] at h1 h2
    subst h1; subst h2
    simp only [updL]
    rw [updL_un is os _ (List.nodup_cons.1 hn).1, updO_same]
  | a :: is, b :: os, x, k + 1, i, o, hn, h1, h2 => by
    simp only [updL]
    exact updL_at is os _ k i o (List.nodup_cons.1 hn).2 (by simpa using h1) (by simpa using h2)

/-- what a call did, told by its caller. -/
theorem merge_post (hH : HRel tab g obj w) {L : List Nat} (hn : L.Nodup) (hcl : ∀ i ∈ L, ∀ j ∈ Obj.refs (obj i), j ∈ L) {h : List (Option Obj)} (hr : renObjs (placeOf L) noShift 0 (L.map obj) = some h)
    {h' : List (Option Obj)} {fresh : Nat} {bk sh : Nat → Nat} (hbk : bk = fun i => if i < L.length then L.getD i 0 else fresh + (i - L.length)) (hsh : sh = fun i => if i < L.length then verOf (h.getD i none) else 0)
    {os : List (Option Obj)} (hos : renObjs bk sh 0 h' = some os) (hle : L.length ≤ os.length) (hfree : ∀ k, k < (os.drop L.length).length → obj (fresh + k) = none)
    {g' : Gh} {w' : World} (hH' : HRel tab g' (objOf h') w') (hE : Evo ⟨fun i => g.at_ (L.getD i 0), g.im⟩ (objOf h) w g' (objOf h') w') {r : V} {v : Value} (hrv : VRel tab g' (objOf h') w' r v) :
    ∃ g2, Post tab g obj w g2 (updL (updL obj L (os.take L.length)) (List.range' fresh (os.drop L.length).length) (os.drop L.length)) w' ∧
      VRel tab g2 (updL (updL obj L (os.take L.length)) (List.range' fresh (os.drop L.length).length) (os.drop L.length)) w' (V.ren bk sh r) v := by
  obtain ⟨hH1, hcor1, hhl, hob1, hown1⟩ := hrel_sub1 hH hn hcl hr
  obtain ⟨hlen', hget'⟩ := renObjs_ok _ _ _ hos
  generalize hm : L.length = m at *
  generalize hns : os.drop m = ns at *
  have hnl : ns.length = os.length - m := by rw [← hns]; simp
  generalize hobj2 : updL (updL obj L (os.take m)) (List.range' fresh ns.length) ns = obj2
  have hLsome : ∀ i ∈ L, ∃ o, obj i = some o := fun i hi => by
    obtain ⟨o, h1, _⟩ := hob1 _ _ (placeOf_get hi)
    exact ⟨o, h1⟩
  have hLfresh : ∀ i ∈ L, ∀ j, j < ns.length → i ≠ fresh + j := fun i hi j hj e => by
    obtain ⟨o, ho⟩ := hLsome i hi
    rw [e, hfree j hj] at ho; cases ho
  have bkL : ∀ k i, L[k]? = some i → bk k = i := fun k i hk => by
    obtain ⟨hlt, _⟩ := List.getElem?_eq_some_iff.1 hk
    rw [hbk]; simp only
    rw [if_pos (by omega), List.getD_eq_getElem?_getD, hk]; rfl
  have bkF : ∀ k, m ≤ k → bk k = fresh + (k - m) := fun k hk => by rw [hbk]; simp only; rw [if_neg (by omega)]
  have o2L : ∀ k i, L[k]? = some i → ∃ o, os[k]? = some o ∧ obj2 i = o := fun k i hk => by
    obtain ⟨hlt, _⟩ := List.getElem?_eq_some_iff.1 hk
    have hk2 : os[k]? = some os[k] := List.getElem?_eq_getElem (by omega)
    refine ⟨_, hk2, ?_⟩
    rw [← hobj2, updL_un _ _ _ (fun hmem => ?_)]
    · exact updL_at L _ obj k i _ hn hk (by rw [List.getElem?_take, if_pos (by omega)]; exact hk2)
    · obtain ⟨j, hj, e⟩ := List.mem_range'.1 hmem
      rw [Nat.one_mul] at e
      exact hLfresh i (List.mem_of_getElem? hk) j hj e
  have o2F : ∀ k, k < ns.length → os[m + k]? = some (obj2 (fresh + k)) := fun k hk => by
    have hk2 : ns[k]? = some ns[k] := List.getElem?_eq_getElem hk
    have e1 : os[m + k]? = ns[k]? := by rw [← hns, List.getElem?_drop]
    rw [e1, hk2, ← hobj2]
    congr 1
    exact (updL_at (List.range' fresh ns.length) ns _ k (fresh + k) _ (List.nodup_range' ..) (by rw [List.getElem?_range' hk]; simp) hk2).symm
  have o2N : ∀ i, i ∉ L → ¬ (fresh ≤ i ∧ i < fresh + ns.length) → obj2 i = obj i := fun i h1 h2 => by
    rw [← hobj2, updL_un _ _ _ (fun hmem => ?_), updL_un _ _ _ h1]
    obtain ⟨j, hj, e⟩ := List.mem_range'.1 hmem
    exact h2 ⟨by omega, by omega⟩
  let g2 : Gh := ⟨fun i => if i ∈ L then g'.at_ (placeOf L i) else if fresh ≤ i ∧ i < fresh + ns.length then g'.at_ (m + (i - fresh)) else g.at_ i, g'.im⟩
  have a2L : ∀ k i, L[k]? = some i → g2.at_ i = g'.at_ k := fun k i hk => by
    show (if i ∈ L then g'.at_ (placeOf L i) else _) = _
    rw [if_pos (List.mem_of_getElem? hk), placeOf_at hn hk]
  have a2F : ∀ k, k < ns.length → g2.at_ (fresh + k) = g'.at_ (m + k) := fun k hk => by
    show (if fresh + k ∈ L then _ else if fresh ≤ fresh + k ∧ fresh + k < fresh + ns.length then g'.at_ (m + (fresh + k - fresh)) else _) = _
    rw [if_neg (fun h => hLfresh _ h k hk rfl), if_pos ⟨by omega, by omega⟩]
    congr 1; omega
  have a2N : ∀ i, i ∉ L → ¬ (fresh ≤ i ∧ i < fresh + ns.length) → g2.at_ i = g.at_ i := fun i h1 h2 => by
    show (if i ∈ L then _ else if fresh ≤ i ∧ i < fresh + ns.length then _ else g.at_ i) = _
    rw [if_neg h1, if_neg h2]
  -- each of the callee's objects has its place
  have place : ∀ k o, objOf h' k = some o → obj2 (bk k) = some (Obj.ren bk sh (sh k) o) ∧ g2.at_ (bk k) = g'.at_ k := fun k o hk => by
    have hlt : k < h'.length := by
      rcases Nat.lt_or_ge k h'.length with h | h
      · exact h
      · unfold objOf at hk; rw [List.getElem?_eq_none h] at hk; cases hk
    obtain ⟨o', h1, h2⟩ := hget' k hlt
    have : o' = o := by
      unfold objOf at hk
      rw [h1] at hk
      exact Option.some.inj hk
    subst this
    rw [Nat.zero_add] at h2
    rcases Nat.lt_or_ge k m with hkm | hkm
    · have hLk : L[k]? = some (L[k]'(by omega)) := List.getElem?_eq_getElem (by omega)
      rw [bkL k _ hLk]
      obtain ⟨o, m1, m2⟩ := o2L k _ hLk
      rw [h2] at m1
      exact ⟨by rw [m2]; exact (Option.some.inj m1).symm, a2L k _ hLk⟩
    · have hkn : k - m < ns.length := by omega
      have e := o2F (k - m) hkn
      rw [show m + (k - m) = k by omega, h2] at e
      rw [bkF k hkm]
      refine ⟨(Option.some.inj e).symm, ?_⟩
      rw [a2F _ hkn, show m + (k - m) = k by omega]
  have corr : ∀ k, Corr g' g2 (objOf h') obj2 bk sh k := fun k o ho => place k o ho
  -- what an object is
  have cls : ∀ i o, obj2 i = some o → (∃ k o', objOf h' k = some o' ∧ bk k = i ∧ o = Obj.ren bk sh (sh k) o' ∧ g2.at_ i = g'.at_ k) ∨ (i ∉ L ∧ obj i = some o ∧ g2.at_ i = g.at_ i) := fun i o ho => by
    by_cases h1 : i ∈ L
    · have hk := placeOf_get h1
      obtain ⟨o1, m1, m2⟩ := o2L _ _ hk
      have hlt : placeOf L i < h'.length := by have := placeOf_lt h1; omega
      obtain ⟨o', q1, q2⟩ := hget' _ hlt
      rw [m1] at q2
      refine .inl ⟨placeOf L i, o', by unfold objOf; rw [q1]; rfl, bkL _ _ hk, ?_, a2L _ _ hk⟩
      rw [m2] at ho
      rw [ho, Nat.zero_add] at q2
      exact Option.some.inj (Option.some.inj q2)
    · by_cases h2 : fresh ≤ i ∧ i < fresh + ns.length
      · have hk : i - fresh < ns.length := by omega
        have e := o2F (i - fresh) hk
        have e' := a2F (i - fresh) hk
        rw [show fresh + (i - fresh) = i by omega] at e e'
        have hlt : m + (i - fresh) < h'.length := by omega
        obtain ⟨o', q1, q2⟩ := hget' _ hlt
        rw [e, ho, Nat.zero_add] at q2
        refine .inl ⟨m + (i - fresh), o', by unfold objOf; rw [q1]; rfl, by rw [bkF _ (by omega)]; omega, Option.some.inj (Option.some.inj q2), e'⟩
      · exact .inr ⟨h1, by rw [← o2N i h1 h2]; exact ho, a2N i h1 h2⟩
  have own2 : ∀ i b q, owns g2 obj2 i b q → (∃ k, bk k = i ∧ owns g' (objOf h') k b q) ∨ (i ∉ L ∧ owns g obj i b q ∧ obj2 i = obj i) := fun i b q hi => by
    cases ho : obj2 i with
    | none => unfold owns at hi; rw [ho] at hi; exact hi.elim
    | some o =>
      rcases cls i o ho with ⟨k, o', h1, h2, h3, h4⟩ | ⟨h1, h2, h3⟩
      · subst h3
        exact .inl ⟨k, h2, (owns_ren (g := g') (g2 := g2) h1 ho h4 b q).1 hi⟩
      · refine .inr ⟨h1, ?_, by rw [h2]⟩
        unfold owns at hi ⊢
        rw [ho, h3] at hi
        rw [h2]; exact hi
  have ownedL : ∀ b q, owned ⟨fun i => g.at_ (L.getD i 0), g.im⟩ (objOf h) b q → ∃ i ∈ L, owns g obj i b q := fun b q ⟨k, hk⟩ => by
    obtain ⟨i, h1, h2⟩ := hown1 k b q hk
    exact ⟨i, List.mem_of_getElem? h1, h2⟩
  have ownedN : ∀ i b q, i ∉ L → owns g obj i b q → ¬ owned ⟨fun i => g.at_ (L.getD i 0), g.im⟩ (objOf h) b q := fun i b q hi ho hc => by
    obtain ⟨j, hj, h2⟩ := ownedL b q hc
    rw [hH.one i j b q ho h2] at hi
    exact hi hj
  have cellI : ∀ b o, g.im b o → w'.cell? (cellAt b o) = w.cell? (cellAt b o) := fun b o hi =>
    (hE.blk b (hH.imOld b o hi)).cell fun hc => by
      obtain ⟨j, hj, h2⟩ := ownedL b o hc
      exact hH.imm j b o h2 hi
  have cellN : ∀ i b o, i ∉ L → owns g obj i b o → w'.cell? (cellAt b o) = w.cell? (cellAt b o) := fun i b o hi ho =>
    (hE.blk b (hH.old i b o ho)).cell (ownedN i b o hi ho)
  have kind : OEvo g obj g2 obj2 := by
    intro i
    by_cases hi : i ∈ L
    · have hk := placeOf_get hi
      obtain ⟨o, h1, h2⟩ := hob1 _ _ hk
      have hkv := hE.kevo (placeOf L i)
      have hat : (⟨fun i => g.at_ (L.getD i 0), g.im⟩ : Gh).at_ (placeOf L i) = g.at_ i := by
        show g.at_ (L.getD (placeOf L i) 0) = _
        rw [List.getD_eq_getElem?_getD, hk]; rfl
      rw [h2] at hkv
      rw [h1]
      have hb := bkL _ _ hk
      have box : isBox (objOf h' (placeOf L i)) ∧ g'.at_ (placeOf L i) = g.at_ i → isBox (obj2 i) ∧ g2.at_ i = g.at_ i := fun ⟨q1, q2⟩ => by
        rcases q1 with ⟨cs, q1⟩ | ⟨ds, q1⟩
        · obtain ⟨p1, p2⟩ := place _ _ q1
          rw [hb] at p1 p2
          exact ⟨.inl ⟨_, p1⟩, p2.trans q2⟩
        · obtain ⟨p1, p2⟩ := place _ _ q1
          rw [hb] at p1 p2
          exact ⟨.inr ⟨_, p1⟩, p2.trans q2⟩
      cases o with
      | box cs => simp only [Obj.ren] at hkv; rw [hat] at hkv; exact box hkv
      | cst ds => simp only [Obj.ren] at hkv; rw [hat] at hkv; exact box hkv
      | tok ver sz =>
        simp only [Obj.ren] at hkv
        obtain ⟨v', sz', q1⟩ := hkv
        obtain ⟨p1, p2⟩ := place _ _ q1
        rw [hb] at p1 p2
        have hshv : sh (placeOf L i) = ver + 1 := by
          rw [hsh]
          simp only
          rw [if_pos (by rw [← hm]; exact placeOf_lt hi)]
          have : h.getD (placeOf L i) none = some (.tok (ver + 0) sz) := by
            unfold objOf at h2
            rw [List.getD_eq_getElem?_getD]
            cases hq : h[placeOf L i]? with
            | none => rw [hq] at h2; cases h2
            | some x => rw [hq] at h2; simpa [Obj.ren] using h2
          rw [this]; rfl
        refine ⟨_, _, p1, by rw [hshv]; omega, fun e => by rw [hshv] at e; omega⟩
      | arr ver sz xs =>
        simp only [Obj.ren] at hkv
        rw [hat] at hkv
        obtain ⟨v', xs', q1, q2, q3⟩ := hkv
        obtain ⟨p1, p2⟩ := place _ _ q1
        rw [hb] at p1 p2
        refine ⟨v', _, p1, q2, fun e => ⟨?_, p2.trans (q3 e).2⟩⟩
        have := (q3 e).1
        rw [renRows_length] at this ⊢
        exact this
      | map kvs =>
        simp only [Obj.ren] at hkv
        rw [hat] at hkv
        obtain ⟨⟨kvs', q1⟩, q3⟩ := hkv
        obtain ⟨p1, p2⟩ := place _ _ q1
        rw [hb] at p1 p2
        exact ⟨⟨_, p1⟩, p2.trans q3⟩
    · by_cases h2 : fresh ≤ i ∧ i < fresh + ns.length
      · have := hfree (i - fresh) (by omega)
        rw [show fresh + (i - fresh) = i by omega] at this
        rw [this]; trivial
      · have := OEvo.refl g obj i
        rw [o2N i hi h2, a2N i hi h2]
        exact this
  have hv : ∀ x v, VRel tab g obj w x v → VRel tab g2 obj2 w' x v := fun x v hx => VRel.mono kind hE.im cellI x v hx
  have sz := hE.size
  have bkInj : ∀ k k' o o', objOf h' k = some o → objOf h' k' = some o' → bk k = bk k' → k = k' := fun k k' o o' hk hk' e => by
    have lt : ∀ k o, objOf h' k = some o → k < os.length := fun k o hk => by
      rcases Nat.lt_or_ge k h'.length with h | h
      · omega
      · unfold objOf at hk; rw [List.getElem?_eq_none h] at hk; cases hk
    have l1 := lt k o hk
    have l2 := lt k' o' hk'
    rcases Nat.lt_or_ge k m with a | a <;> rcases Nat.lt_or_ge k' m with b | b
    · have e1 : L[k]? = some (L[k]'(by omega)) := List.getElem?_eq_getElem (by omega)
      have e2 : L[k']? = some (L[k']'(by omega)) := List.getElem?_eq_getElem (by omega)
      rw [bkL k _ e1, bkL k' _ e2] at e
      rw [e] at e1
      exact nodup_get hn e1 e2
    · exfalso
      have e1 : L[k]? = some (L[k]'(by omega)) := List.getElem?_eq_getElem (by omega)
      rw [bkL k _ e1, bkF k' b] at e
      exact hLfresh _ (List.mem_of_getElem? e1) (k' - m) (by omega) e
    · exfalso
      have e1 : L[k']? = some (L[k']'(by omega)) := List.getElem?_eq_getElem (by omega)
      rw [bkL k' _ e1, bkF k a] at e
      exact hLfresh _ (List.mem_of_getElem? e1) (k - m) (by omega) e.symm
    · rw [bkF k a, bkF k' b] at e; omega
  have ownSome : ∀ k b q, owns g' (objOf h') k b q → ∃ o, objOf h' k = some o := fun k b q hk => by
    cases ho : objOf h' k with
    | none => unfold owns at hk; rw [ho] at hk; exact hk.elim
    | some o => exact ⟨o, rfl⟩
  refine ⟨g2, ⟨⟨fun i o hi => ?_, fun i b q hi => ?_, fun i i' b q hi hi' => ?_, fun i b q hi => ?_, fun i b q hi hm' => ?_, hH'.imOld⟩,
    ⟨hE.os, hE.tape, hE.output, hE.size, fun b hb => (hE.blk b hb).mono fun q hq => ?_, hE.im, fun b q hq => ?_, fun b q hq => ?_, kind.kevo⟩, hv⟩, ?_⟩
  · rcases cls i o hi with ⟨k, o', h1, h2, h3, h4⟩ | ⟨h1, h2, h3⟩
    · subst h3
      rw [h4]
      exact ORel.ren (g := g') (obj := objOf h') (g2 := g2) rfl (fun j _ => corr j) (hH'.ob k o' h1)
    · rw [h3]
      have h0 := hH.ob i o h2
      cases o with
      | box cs =>
        obtain ⟨k1, us, k2, k3⟩ := h0
        have hl := k2.length
        refine ⟨k1, us, CList.mono kind hE.im cellI cs us k2, fun q u hq => ?_⟩
        have hq' : q < us.length := by
          rcases Nat.lt_or_ge q us.length with h | h
          · exact h
          · rw [List.getElem?_eq_none h] at hq; cases hq
        rw [cellN i _ _ h1 (by unfold owns; rw [h2]; exact ⟨rfl, by omega, by omega⟩)]
        exact k3 q u hq
      | cst ds => exact DCells.mono hE.im cellI ds _ _ h0
      | tok v sz =>
        intro q hq
        rw [cellN i _ _ h1 (by unfold owns; rw [h2]; exact ⟨rfl, by omega, by omega⟩)]
        exact h0 q hq
      | arr v s xs =>
        obtain ⟨k1, k2, k4, k5⟩ := h0
        have cell : ∀ q, q < (g.at_ i).cnt → w'.cell? (cellAt (g.at_ i).blk ((g.at_ i).lo + q)) = w.cell? (cellAt (g.at_ i).blk ((g.at_ i).lo + q)) := fun q hq =>
          cellN i _ _ h1 (by unfold owns; rw [h2]; exact ⟨rfl, by omega, by omega⟩)
        refine ⟨k1, k2, fun q hq => by rw [cell q hq]; exact k4 q hq, fun j r q d hj hq => ?_⟩
        obtain ⟨u, h6, h7, h8⟩ := k5 j r q d hj hq
        refine ⟨u, ?_, VRel.mono kind hE.im cellI d u h7, h8⟩
        have hr : r.length = s := k1 r (List.mem_of_getElem? hj)
        have hj' : j < xs.length := by
          rcases Nat.lt_or_ge j xs.length with h | h
          · exact h
          · rw [List.getElem?_eq_none h] at hj; cases hj
        have hq' : q < r.length := by
          rcases Nat.lt_or_ge q r.length with h | h
          · exact h
          · rw [List.getElem?_eq_none h] at hq; cases hq
        have hle : (j + 1) * s ≤ xs.length * s := Nat.mul_le_mul_right _ hj'
        rw [Nat.add_mul] at hle
        rw [Nat.add_assoc, cell (j * s + q) (by omega), ← Nat.add_assoc]
        exact h6
      | map kvs =>
        obtain ⟨es, cl, k1, k2⟩ := h0
        have hown : ∀ o, owns g obj i (g.at_ i).blk o := fun o => by unfold owns; rw [h2]
        refine ⟨es, cl, ?_, EList.mono kind hE.im cellI kvs es.toList k2⟩
        rcases hE.blk (g.at_ i).blk (hH.old i _ 0 (hown 0)) with hb | ⟨c, c', t, fr, q1, q2, q3, q4⟩ | ⟨es1, cl1, es', cl', q1, q2, q3⟩
        · rw [hb, k1]
        · rw [k1] at q1; cases q1
        · exact absurd (q3 0) (ownedN i _ 0 h1 (hown 0))
  · rcases own2 i b q hi with ⟨k, _, h2⟩ | ⟨h1, h2, _⟩
    · exact hH'.imm k b q h2
    · intro hi'
      rcases hE.imNew b q hi' with h3 | h3 | h3
      · exact hH.imm i b q h2 h3
      · exact ownedN i b q h1 h2 h3
      · have := hH.old i b q h2; omega
  · have cross : ∀ k j, j ∉ L → owns g' (objOf h') k b q → owns g obj j b q → False := fun k j h1 h2 h3 => by
      rcases hE.ownNew b q ⟨k, h2⟩ with h4 | h4
      · exact ownedN j b q h1 h3 h4
      · have := hH.old j b q h3; omega
    rcases own2 i b q hi with ⟨k, e1, h2⟩ | ⟨h1, h2, _⟩ <;> rcases own2 i' b q hi' with ⟨k', e1', h2'⟩ | ⟨h1', h2', _⟩
    · rw [← e1, ← e1', hH'.one k k' b q h2 h2']
    · exact (cross k i' h1' h2 h2').elim
    · exact (cross k' i h1 h2' h2).elim
    · exact hH.one i i' b q h2 h2'
  · rcases own2 i b q hi with ⟨k, _, h2⟩ | ⟨h1, h2, _⟩
    · exact hH'.old k b q h2
    · exact Nat.lt_of_lt_of_le (hH.old i b q h2) sz
  · rcases own2 i b q hi with ⟨k, e1, h2⟩ | ⟨h1, h2, h3⟩
    · obtain ⟨o, ho⟩ := ownSome k b q h2
      obtain ⟨p1, p2⟩ := place k o ho
      rw [e1] at p1
      exact hH'.frz k b q h2 (mapOf_ren ho p1 hm')
    · rw [h3] at hm'
      intro q'
      rw [(hE.blk b (hH.old i b q h2)).frozen]
      exact hH.frz i b q h2 hm' q'
  · obtain ⟨i, _, h2⟩ := ownedL b q hq
    exact ⟨i, h2⟩
  · rcases hE.imNew b q hq with h3 | h3 | h3
    · exact .inl h3
    · obtain ⟨i, _, h2⟩ := ownedL b q h3
      exact .inr (.inl ⟨i, h2⟩)
    · exact .inr (.inr h3)
  · obtain ⟨i, hi⟩ := hq
    rcases own2 i b q hi with ⟨k, _, h2⟩ | ⟨h1, h2, _⟩
    · rcases hE.ownNew b q ⟨k, h2⟩ with h4 | h4
      · obtain ⟨j, _, h5⟩ := ownedL b q h4
        exact .inl ⟨j, h5⟩
      · exact .inr h4
    · exact .inl ⟨i, h2⟩
  · exact VRel.ren (g := g') (obj := objOf h') (g2 := g2) rfl r v (fun j _ => corr j) hrv

/-- a call. -/
theorem enter_post {call : CallF} {fid key : Nat} (hF : FnOk P tab fid (call key)) (hH : HRel tab g obj w) {vs : List V} {us : List Value} (hv : VList tab g obj w vs us) {res fresh : Nat} {r : V} {is : List Nat} {os ns : List (Option Obj)}
    (he : enterCall call obj key vs res fresh = some (r, is, os, ns)) (hfree : ∀ k, k < ns.length → obj (fresh + k) = none) :
    Go.Calls P fid us.toArray w fun e w' => ∃ v g', e = .returned v ∧ Post tab g obj w g' (updL (updL obj is os) (List.range' fresh ns.length) ns) w' ∧ VRel tab g' (updL (updL obj is os) (List.range' fresh ns.length) ns) w' r v := by
  unfold enterCall at he
  split at he
  · cases he
  · rename_i hs hhs
    split at he
    · cases he
    · rename_i L hL
      split at he
      · cases he
      · rename_i h hh
        split at he
        · cases he
        · rename_i r' h' hcall
          simp only at he
          split at he
          · cases he
          · rename_i os' hos
            split at he
            · rename_i hle
              simp only [Option.some.injEq, Prod.mk.injEq] at he
              obtain ⟨rfl, rfl, rfl, rfl⟩ := he
              obtain ⟨_, hn, hin, hcl⟩ := reach_ok far _ [] L hL (by simp) (by simp)
              obtain ⟨hH1, hcor1, _, _, _⟩ := hrel_sub1 hH hn hcl hh
              have hv1 : VList tab ⟨fun i => g.at_ (L.getD i 0), g.im⟩ (objOf h) w (V.renAll (placeOf L) noShift hs) us :=
                VList.ren (g := g) (g2 := ⟨fun i => g.at_ (L.getD i 0), g.im⟩) (obj := obj) rfl _ _ (fun i hi => hcor1 i (hin i hi)) (handAll_rel vs hs us hhs hv)
              have := hF _ _ _ _ hcall _ w us hH1 hv1
              intro cs
              obtain ⟨e, w', fr, ⟨v, g', he, k1, k2, k3⟩, m2, m3, m4⟩ := this cs
              obtain ⟨g2, q1, q2⟩ := merge_post hH hn hcl hh rfl rfl hos hle.1 hfree k1 k2 k3
              exact ⟨e, w', fr, ⟨v, g2, he, q1, q2⟩, m2, m3, m4⟩
            · cases he

end
end Ab
