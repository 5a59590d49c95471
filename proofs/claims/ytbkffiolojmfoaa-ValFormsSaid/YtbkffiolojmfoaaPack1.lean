/-
  'append' of the interpreter is the model's.
-/
import Derived.Test.YtbkffiolojmfoaaPack0
import Derived.Laws.Strings
import Derived.Laws.Concat
import Derived.Laws.BytesString
import Derived.Laws.MakeOwn
set_option linter.unusedSimpArgs false
set_option linter.unusedVariables false
set_option linter.unusedSectionVars false
set_option linter.unnecessarySimpa false
namespace Ab
open Go
open Go.RowKit (Below)
set_option linter.unusedVariables false

section
variable {P : Program} {tab : Tab} {g : Gh} {obj : Nat → Option Obj} {w : World}

theorem run_append_none {t u ty e : TypeId} (ht : P.underlying t = some (.slice e)) (hu : isSliceT P u = true) (hs : P.cellsOf e ≠ 0) (base A : Option Addr) (sLen sCap c : Nat) (hle : sLen ≤ sCap) :
    (Builtin.append_ #[t, u] ty #[.slice base sLen sCap, .slice A 0 c]).run P w = .ok (.slice base sLen sCap) w := by
  obtain ⟨d, hd⟩ : ∃ d, P.underlying u = some (.slice d) := by
    unfold isSliceT at hu
    split at hu
    · exact ⟨_, by assumption⟩
    · cases hu
  have hf : (Builtin.firstCells (P.cellsOf e) 0 (.slice A 0 c)).run P w = .ok #[] w := by
    cases A with
    | none => simp [Builtin.firstCells]
    | some a => simp [Builtin.firstCells, loadCells, loadCellsFrom]
  have hst : ∀ a : Addr, (storeCells a [] 0).run P w = .ok () w := fun a => rfl
  cases base with
  | none => simp [Builtin.append_, run_underlying ht, run_underlying hd, run_size hs, Builtin.lenOf, hle, hf]
  | some a => simp [Builtin.append_, run_underlying ht, run_underlying hd, run_size hs, Builtin.lenOf, hle, hf, hst]

theorem run_append_more {t u ty e : TypeId} {i : TypeInfo} {z : Value} (ht : P.underlying t = some (.slice e)) (hu : isSliceT P u = true) (hi : P.info? e = some i) (hz : i.zero = some z)
    (base A : Option Addr) (sLen sCap n c : Nat) (olds news : List Value)
    (hf1 : ∀ w', (∀ b o, w'.cell? (cellAt b o) = w.cell? (cellAt b o)) → (Builtin.firstCells i.size sLen (.slice base sLen sCap)).run P w' = .ok olds.toArray w')
    (hf2 : ∀ w', (∀ b o, w'.cell? (cellAt b o) = w.cell? (cellAt b o)) → (Builtin.firstCells i.size n (.slice A n c)).run P w' = .ok news.toArray w')
    (hg : sCap < sLen + n) (h63 : sLen + n ≤ 9223372036854775807) (hfit : Builtin.nextslicecap (sLen + n) sCap * i.bytes ≤ 281474976710656) :
    (Builtin.append_ #[t, u] ty #[.slice base sLen sCap, .slice A n c]).run P w =
      .ok (.slice (some ⟨w.heap.size, 0, none⟩) (sLen + n) (grownCap w (sLen + n) sCap e))
        (w.drew.alloc (.cells (olds ++ news ++ (Builtin.zeroCells z.cells (grownCap w (sLen + n) sCap e - (sLen + n))).toList).toArray e)) := by
  obtain ⟨d, hd⟩ : ∃ d, P.underlying u = some (.slice d) := by
    unfold isSliceT at hu
    split at hu
    · exact ⟨_, by assumption⟩
    · cases hu
  have hn : ¬ (sLen + n ≤ sCap) := by omega
  have h63' : ¬ (9223372036854775807 < ((sLen : Int) + (n : Int))) := by omega
  have h48' : ¬ (281474976710656 < Builtin.nextslicecap (sLen + n) sCap * i.bytes) := by omega
  have k1 := hf1 w.drew (fun _ _ => rfl)
  have k2 := hf2 w.drew (fun _ _ => rfl)
  simp [Builtin.append_, run_underlying ht, run_underlying hd, Go.sizeOf, typeInfo, zeroValue, hi, hz, Builtin.lenOf, hn, h63', h48', Question.forced, k1, k2, newRow, grownCap]
  congr 2
  apply Array.ext'
  simp

theorem firstCells_of {sz : Nat} {xs : List (List D)} {A : Option Addr} {c : Nat} (hs : ∀ r ∈ xs, r.length = sz) (h : xs = [] ∨ ∃ b o, A = some (cellAt b o) ∧ DRows tab g.im w b o xs) :
    ∃ us, DList tab g.im w xs.flatten us ∧ us.length = xs.length * sz ∧ (∀ w', (∀ b o, w'.cell? (cellAt b o) = w.cell? (cellAt b o)) → (Builtin.firstCells sz xs.length (.slice A xs.length c)).run P w' = .ok us.toArray w') ∧
      (∀ b o, A = some (cellAt b o) → xs = [] ∨ Holds w b o us) := by
  have nilcase : xs = [] → ∃ us, DList tab g.im w xs.flatten us ∧ us.length = xs.length * sz ∧ (∀ w', (∀ b o, w'.cell? (cellAt b o) = w.cell? (cellAt b o)) → (Builtin.firstCells sz xs.length (.slice A xs.length c)).run P w' = .ok us.toArray w') ∧
      (∀ b o, A = some (cellAt b o) → xs = [] ∨ Holds w b o us) := by
    rintro rfl
    refine ⟨[], by simp [DList], by simp, fun w' _ => ?_, fun _ _ _ => .inl rfl⟩
    cases A with
    | none => simp [Builtin.firstCells]
    | some a => simp [Builtin.firstCells, loadCells, loadCellsFrom]
  rcases h with h | ⟨b, o, rfl, h⟩
  · exact nilcase h
  · obtain ⟨us, k1, k2, k3⟩ := h.cells.get
    have hl : us.length = xs.length * sz := by rw [k2, flatten_length hs]
    refine ⟨us, k1, hl, fun w' hw => ?_, fun b' o' e => .inr ?_⟩
    · show (loadCells (cellAt b o) (xs.length * sz)).run P w' = _
      rw [← hl]
      exact run_loadCells_list w' (cellAt b o) us (fun j v hj => by rw [add_at, hw]; exact k3 j v hj)
    · injection e with e
      injection e with e1 e2
      subst e1; subst e2
      exact k3

theorem moreOf_rel {sz : Nat} {y : V} {ys : List (List D)} (h : moreOf sz y = some ys) {yv : Value} (hy : VRel tab g obj w y yv) :
    ∃ A c, yv = .slice A ys.length c ∧ (∀ r ∈ ys, r.length = sz) ∧ (ys = [] ∨ ∃ b o, A = some (cellAt b o) ∧ DRows tab g.im w b o ys) := by
  unfold moreOf at h
  split at h
  · rename_i sz' ys'
    split at h
    · rename_i e; subst e; cases h
      simp only [VRel, DRel] at hy
      obtain ⟨A, c, k1, k2, k3, k4⟩ := hy
      exact ⟨A, c, k1, k3, k4⟩
    · cases h
  · rename_i a b sz' ys'
    split at h
    · rename_i e; subst e; cases h
      simp only [VRel, DRel] at hy
      obtain ⟨⟨A, c, k1, k2, k3, k4⟩, _⟩ := hy
      exact ⟨A, c, k1, k3, k4⟩
    · cases h
  · cases h
    simp only [VRel] at hy
    exact ⟨none, 0, hy, by simp, .inl rfl⟩
  · cases h

/-- a token, new or one version on. -/
def okTok (obj : Nat → Option Obj) (id ver sz : Nat) : Prop := obj id = none ∨ ∃ v, v < ver ∧ obj id = some (.tok v sz)

theorem OEvo.tok {id ver sz : Nat} (h : okTok obj id ver sz) (p : Place) (im' : Nat → Nat → Prop) : OEvo g obj ⟨updP g.at_ id p, im'⟩ (updO obj id (some (.tok ver sz))) := by
  rcases h with h | ⟨v, hv, h⟩
  · exact .fresh h _ _ _
  · intro j
    by_cases e : j = id
    · subst e; rw [h]
      exact ⟨ver, sz, updO_same _ _ _, by omega, fun e => by omega⟩
    · have := OEvo.refl g obj j
      rw [updO_ne _ _ e, show (⟨updP g.at_ id p, im'⟩ : Gh).at_ j = g.at_ j from updP_ne _ _ e]
      exact this

theorem VRel_own {id ver sz : Nat} {zs : List (List D)} {v : Value} (h1 : DRel tab g.im w (.l sz zs) v) (h2 : obj id = some (.tok ver sz))
    (h3 : ∃ A c, v = .slice A zs.length c ∧ (c = zs.length ∨ ∃ b o, A = some (cellAt b o) ∧ g.at_ id = ⟨b, o + zs.length * sz, (c - zs.length) * sz⟩)) : VRel tab g obj w (.own id ver sz zs) v := by
  simp only [VRel]
  exact ⟨h1, ver, sz, h2, Nat.le_refl _, fun _ => ⟨rfl, h3⟩⟩

/-- nothing is put behind: the token's version alone turns. -/
theorem app_same (hH : HRel tab g obj w) {id ver sz : Nat} (ht : okTok obj id ver sz) (b lo cnt : Nat) (hp : (∃ v, obj id = some (.tok v sz)) ∧ g.at_ id = ⟨b, lo, cnt⟩ ∨ cnt = 0) :
    Post tab g obj w ⟨updP g.at_ id ⟨b, lo, cnt⟩, g.im⟩ (updO obj id (some (.tok ver sz))) w := by
  have howns : ∀ b' o, owns ⟨updP g.at_ id ⟨b, lo, cnt⟩, g.im⟩ (updO obj id (some (.tok ver sz))) id b' o → owns g obj id b' o := fun b' o h => by
    unfold owns at *
    simp only [updO_same, updP_same] at h
    rcases hp with ⟨⟨v, hv⟩, hp⟩ | hp
    · rw [hv, hp]; exact h
    · subst hp; omega
  obtain ⟨h1, h2, h3⟩ := step1 (w' := w) hH id (.tok ver sz) ⟨b, lo, cnt⟩ g.im rfl rfl rfl (Nat.le_refl _) (fun _ _ => .refl _) (fun _ _ h => h) (fun _ _ h => .inl h)
    (fun b' o h => ⟨.inl (howns b' o h), hH.imm id b' o (howns b' o h)⟩)
    (fun b' o h _ => hH.frz id b' o (howns b' o h) (fun kvs e => by rcases ht with ht | ⟨v, _, ht⟩ <;> rw [ht] at e <;> cases e))
    (.tok ht _ _)
    (fun _ q hq => by
      rcases hp with ⟨⟨v, hv⟩, hp⟩ | hp
      · have := hH.ob id _ hv q (by rw [hp]; exact hq)
        rw [hp] at this; exact this
      · subst hp; exact absurd hq (Nat.not_lt_zero _))
  exact ⟨h1, h2, h3⟩

/-- the same world, so many answers drawn. -/
def wd (w : World) (d : Nat) : World := { w with drawn := d }

/-- all is copied to a new block. -/
theorem app_new (hH : HRel tab g obj w) (dr : Nat) {id ver sz : Nat} (ht : okTok obj id ver sz) {zs : List (List D)} {us rest : List Value} {e : TypeId} {cap : Nat} (hz : DList tab g.im w zs.flatten us) (hs : ∀ r ∈ zs, r.length = sz)
    (hcap : zs.length ≤ cap) (hrest : rest.length = (cap - zs.length) * sz) :
    ∃ g', Post tab g obj w g' (updO obj id (some (.tok ver sz))) ((wd w dr).alloc (.cells (us ++ rest).toArray e)) ∧
      VRel tab g' (updO obj id (some (.tok ver sz))) ((wd w dr).alloc (.cells (us ++ rest).toArray e)) (.own id ver sz zs) (.slice (some ⟨w.heap.size, 0, none⟩) zs.length cap) := by
  have hl : us.length = zs.length * sz := by rw [hz.length, flatten_length hs]
  have hmul : cap * sz = zs.length * sz + (cap - zs.length) * sz := by rw [← Nat.add_mul]; congr 1; omega
  have hsz : ((wd w dr).alloc (.cells (us ++ rest).toArray e)).heap.size = w.heap.size + 1 := Array.size_push ..
  have hblk : ∀ b, b < w.heap.size → ((wd w dr).alloc (.cells (us ++ rest).toArray e)).heap[b]? = w.heap[b]? := fun b hb => by
    show (w.heap.push _)[b]? = _; rw [Array.getElem?_push, if_neg (by omega)]
  let im' : Nat → Nat → Prop := fun b q => g.im b q ∨ (b = w.heap.size ∧ q < zs.length * sz)
  have hold : Holds ((wd w dr).alloc (.cells (us ++ rest).toArray e)) w.heap.size 0 (us ++ rest) := holds_alloc (wd w dr) (us ++ rest) e
  have hlen : (us ++ rest).length = cap * sz := by rw [List.length_append, hl, hrest, hmul]
  have howns : ∀ b q, owns ⟨updP g.at_ id ⟨w.heap.size, zs.length * sz, (cap - zs.length) * sz⟩, im'⟩ (updO obj id (some (.tok ver sz))) id b q → b = w.heap.size ∧ zs.length * sz ≤ q ∧ q < cap * sz := fun b q h => by
    unfold owns at h
    simp only [updO_same, updP_same] at h
    exact ⟨h.1, h.2.1, by omega⟩
  obtain ⟨h1, h2, h3⟩ := step1 (w' := (wd w dr).alloc (.cells (us ++ rest).toArray e)) hH id (.tok ver sz) ⟨w.heap.size, zs.length * sz, (cap - zs.length) * sz⟩ im' rfl rfl rfl (by omega)
    (fun b hb => .inl (hblk b hb)) (fun _ _ h => .inl h)
    (fun b q h => by
      rcases h with h | ⟨e, _⟩
      · exact .inl h
      · exact .inr (.inr ⟨by omega, by omega⟩))
    (fun b q h => by
      obtain ⟨rfl, k2, k3⟩ := howns b q h
      refine ⟨.inr ⟨Nat.le_refl _, by omega⟩, fun h => ?_⟩
      rcases h with h | h
      · have := hH.imOld _ _ h; omega
      · omega)
    (fun b q h _ q' => by
      obtain ⟨rfl, k2, k3⟩ := howns b q h
      show ((wd w dr).alloc _).frozen? ⟨(wd w dr).heap.size, q', none⟩ = false
      exact World.frozen?_alloc_new ..)
    (.tok ht _ _)
    (fun _ q hq => by
      have hq' : q < (cap - zs.length) * sz := hq
      have := hold (zs.length * sz + q) (us ++ rest)[zs.length * sz + q] (List.getElem?_eq_getElem (by omega))
      rw [Nat.zero_add] at this
      show (((wd w dr).alloc (.cells (us ++ rest).toArray e)).cell? (cellAt w.heap.size (zs.length * sz + q))).isSome = true
      rw [this]; rfl)
  refine ⟨_, ⟨h1, h2, h3⟩, VRel_own ?_ (updO_same _ _ _) ⟨_, _, rfl, .inr ⟨w.heap.size, 0, rfl, ?_⟩⟩⟩
  · simp only [DRel]
    refine ⟨_, _, rfl, hcap, hs, .inr ⟨w.heap.size, 0, rfl, DRows.mk (DCells.mk (us := us) ?_ ?_ ?_)⟩⟩
    · exact DList.mono (w := w) (fun _ _ h => .inl h) (fun b o h => (h2.blk b (hH.imOld b o h)).cell fun ⟨j, hj⟩ => hH.imm j b o hj h) _ _ hz
    · exact fun q u hq => hold q u (by
        have hlt : q < us.length := by
          rcases Nat.lt_or_ge q us.length with h | h
          · exact h
          · rw [List.getElem?_eq_none h] at hq; cases hq
        rw [List.getElem?_append_left hlt]; exact hq)
    · intro q hq
      rw [flatten_length hs] at hq
      exact .inr ⟨rfl, by omega⟩
  · show updP g.at_ id _ id = _
    rw [updP_same, Nat.zero_add]

/-- there is room: the elements are written behind. -/
theorem app_room (hH : HRel tab g obj w) {id v0 ver sz : Nat} (ho : obj id = some (.tok v0 sz)) (hv : v0 < ver) {xs ys : List (List D)} {us : List Value} {b o c : Nat}
    (hx : DRows tab g.im w b o xs) (hxs : ∀ r ∈ xs, r.length = sz) (hat : g.at_ id = ⟨b, o + xs.length * sz, (c - xs.length) * sz⟩) (hroom : xs.length + ys.length ≤ c)
    (hy : DList tab g.im w ys.flatten us) (hys : ∀ r ∈ ys, r.length = sz) :
    (∀ j, j < us.length → (w.cell? (cellAt b (o + xs.length * sz + j))).isSome = true) ∧ (∀ j, j < us.length → w.frozen? (cellAt b (o + xs.length * sz + j)) = false) ∧
    ∃ g', Post tab g obj w g' (updO obj id (some (.tok ver sz))) (w.setCells b (o + xs.length * sz) us) ∧
      VRel tab g' (updO obj id (some (.tok ver sz))) (w.setCells b (o + xs.length * sz) us) (.own id ver sz (xs ++ ys)) (.slice (some (cellAt b o)) (xs.length + ys.length) c) := by
  have hl : us.length = ys.length * sz := by rw [hy.length, flatten_length hys]
  have hmul : (c - xs.length) * sz = ys.length * sz + (c - (xs.length + ys.length)) * sz := by rw [← Nat.add_mul]; congr 1; omega
  have hown : ∀ j, j < (c - xs.length) * sz → owns g obj id b (o + xs.length * sz + j) := fun j hj => by
    unfold owns; rw [ho, hat]; exact ⟨rfl, by show o + xs.length * sz ≤ _; omega, by show _ < o + xs.length * sz + (c - xs.length) * sz; omega⟩
  have hcell : ∀ j, j < (c - xs.length) * sz → (w.cell? (cellAt b (o + xs.length * sz + j))).isSome = true := fun j hj => by
    have := hH.ob id _ ho j (by rw [hat]; exact hj)
    rw [hat] at this; exact this
  have hcell' : ∀ j, j < us.length → (w.cell? (cellAt b (o + xs.length * sz + j))).isSome = true := fun j hj => hcell j (by omega)
  have hfr : ∀ j, j < us.length → w.frozen? (cellAt b (o + xs.length * sz + j)) = false := fun j hj => hH.frz id _ _ (hown j (by omega)) (fun kvs => by rw [ho]; simp) _
  refine ⟨hcell', hfr, ?_⟩
  obtain ⟨e1, e2, e3, e4⟩ := setCells_os b us (o + xs.length * sz) w
  have hadd : (xs.length + ys.length) * sz = xs.length * sz + ys.length * sz := Nat.add_mul ..
  let p' : Place := ⟨b, o + (xs.length + ys.length) * sz, (c - (xs.length + ys.length)) * sz⟩
  let im' : Nat → Nat → Prop := fun b' q => g.im b' q ∨ (b' = b ∧ o + xs.length * sz ≤ q ∧ q < o + xs.length * sz + ys.length * sz)
  have howns : ∀ b' q, owns ⟨updP g.at_ id p', im'⟩ (updO obj id (some (.tok ver sz))) id b' q → b' = b ∧ o + xs.length * sz + ys.length * sz ≤ q ∧ q < o + xs.length * sz + (c - xs.length) * sz := fun b' q h => by
    unfold owns at h
    simp only [updO_same, updP_same] at h
    obtain ⟨h1, h2, h3⟩ := h
    have h2' : o + (xs.length + ys.length) * sz ≤ q := h2
    have h3' : q < o + (xs.length + ys.length) * sz + (c - (xs.length + ys.length)) * sz := h3
    exact ⟨h1, by omega, by omega⟩
  have hown0 : ∀ b' q, b' = b → o + xs.length * sz ≤ q → q < o + xs.length * sz + (c - xs.length) * sz → owns g obj id b' q := fun b' q h1 h2 h3 => by
    subst h1
    have := hown (q - (o + xs.length * sz)) (by omega)
    rwa [show o + xs.length * sz + (q - (o + xs.length * sz)) = q by omega] at this
  obtain ⟨h1, h2, h3⟩ := step1 (w' := w.setCells b (o + xs.length * sz) us) hH id (.tok ver sz) p' im' e1 e2 e3 (by omega)
    (fun b' hb => (blockEvo_setCells b b' us (o + xs.length * sz) w).mono fun q ⟨m1, m2, m3⟩ => hown0 b' q m1 m2 (by omega))
    (fun _ _ h => .inl h)
    (fun b' q h => by
      rcases h with h | ⟨k1, k2, k3⟩
      · exact .inl h
      · exact .inr (.inl (hown0 b' q k1 k2 (by omega))))
    (fun b' q h => by
      obtain ⟨k1, k2, k3⟩ := howns b' q h
      have hw := hown0 b' q k1 (by omega) k3
      refine ⟨.inl hw, fun h => ?_⟩
      rcases h with h | h
      · exact hH.imm id _ _ hw h
      · omega)
    (fun b' q h _ q' => by
      obtain ⟨k1, k2, k3⟩ := howns b' q h
      rw [World.frozen?_setCells]
      exact hH.frz id _ _ (hown0 b' q k1 (by omega) k3) (fun kvs => by rw [ho]; simp) q')
    (.tok (.inr ⟨v0, hv, ho⟩) _ _)
    (fun _ q hq => by
      have hq' : q < (c - (xs.length + ys.length)) * sz := hq
      show ((w.setCells b (o + xs.length * sz) us).cell? (cellAt b (o + (xs.length + ys.length) * sz + q))).isSome = true
      rw [World.cell?_setCells_out _ _ _ _ _ (fun _ _ => by show o + (xs.length + ys.length) * sz + q < o + xs.length * sz ∨ o + xs.length * sz + us.length ≤ o + (xs.length + ys.length) * sz + q; omega)]
      have := hcell (ys.length * sz + q) (by omega)
      rwa [show o + xs.length * sz + (ys.length * sz + q) = o + (xs.length + ys.length) * sz + q by omega] at this)
  have hcI : ∀ b' q, g.im b' q → (w.setCells b (o + xs.length * sz) us).cell? (cellAt b' q) = w.cell? (cellAt b' q) := fun b' q h => (h2.blk b' (hH.imOld b' q h)).cell fun ⟨j, hj⟩ => hH.imm j b' q hj h
  refine ⟨_, ⟨h1, h2, h3⟩, VRel_own ?_ (updO_same _ _ _) ⟨_, _, by rw [List.length_append], .inr ⟨b, o, rfl, ?_⟩⟩⟩
  · simp only [DRel, List.length_append]
    refine ⟨_, _, rfl, hroom, fun r hr => (List.mem_append.1 hr).elim (hxs r) (hys r), .inr ⟨b, o, rfl, ?_⟩⟩
    refine DRows.append (sz := sz) (DRows.mono (w := w) (fun _ _ h => .inl h) hcI _ _ _ hx) hxs (DRows.mk (DCells.mk (us := us) ?_ (holds_setCells hcell') ?_))
    · exact DList.mono (w := w) (fun _ _ h => .inl h) hcI _ _ hy
    · intro q hq
      rw [flatten_length hys] at hq
      exact .inr ⟨rfl, by omega, by omega⟩
  · show updP g.at_ id p' id = _
    rw [updP_same, List.length_append]

theorem roomy_le {n b : Nat} (h : roomy n b = true) (hb : b ≠ 0) : n ≤ 17592186044416 ∧ n * b ≤ 17592186044416 := by
  unfold roomy at h
  have h := of_decide_eq_true h
  refine ⟨?_, h⟩
  have : n * 1 ≤ n * b := Nat.mul_le_mul_left _ (by omega)
  omega

/-- both arms. -/
theorem app_sound (hH : HRel tab g obj w) {t u ty e : TypeId} (ht : P.underlying t = some (.slice e)) (hu : isSliceT P u = true) (hc : P.cellsOf e ≠ 0) (hb : P.bytesOf e ≠ 0) (hz : (zeroOf P e).isSome = true)
    {a b : A} {x y : V} {fresh : Nat} (hf : obj fresh = none) {r : Res} (h : actApp (P.cellsOf e) (P.bytesOf e) fresh [x, y] ((Cop.ids (.app (P.cellsOf e) (P.bytesOf e) a b) [x, y]).map obj) = some r)
    {xv yv : Value} (hx : VRel tab g obj w x xv) (hy : VRel tab g obj w y yv) :
    ∃ id ver zs, r.v = .own id ver (P.cellsOf e) zs ∧ ((∃ v sz', x = .own id v sz' zs ∨ True) ∧
      ((r.os = [] ∧ r.nw = some (.tok ver (P.cellsOf e)) ∧ id = fresh ∧ Cop.ids (.app (P.cellsOf e) (P.bytesOf e) a b) [x, y] = []) ∨
       (r.os = [some (.tok ver (P.cellsOf e))] ∧ r.nw = none ∧ Cop.ids (.app (P.cellsOf e) (P.bytesOf e) a b) [x, y] = [id]))) ∧
    ∃ g' v w', (Builtin.append_ #[t, u] ty #[xv, yv]).run P w = .ok v w' ∧ Post tab g obj w g' (updO obj id (some (.tok ver (P.cellsOf e)))) w' ∧ VRel tab g' (updO obj id (some (.tok ver (P.cellsOf e)))) w' r.v v := by
  obtain ⟨i, hi, his⟩ := info_of hc
  have hib : i.bytes = P.bytesOf e := by unfold Program.bytesOf; simp [hi]
  obtain ⟨z, hiz, hzs⟩ : ∃ z, i.zero = some z ∧ z.cells.size = P.cellsOf e := by
    obtain ⟨zv, hzv⟩ := Option.isSome_iff_exists.1 hz
    unfold zeroOf at hzv
    rw [hi] at hzv
    simp only [Option.bind_some] at hzv
    split at hzv
    · rename_i cs z hcs hz0
      refine ⟨z, hz0, ?_⟩
      split at hzv
      · split at hzv
        · rename_i hcond
          simp only [Bool.and_eq_true, decide_eq_true_eq] at hcond
          have := fitV_rel (tab := tab) (g := g) (obj := obj) (w := w) hcond.1
          simp only [VRel] at this
          obtain ⟨vs, rfl, hcl⟩ := this
          have := hcl.length
          simp [Value.cells, this, hcond.2]
        · cases hzv
      · split at hzv
        · rename_i c
          split at hzv
          · rename_i hcond
            simp only [Bool.and_eq_true, decide_eq_true_eq] at hcond
            have h1 := (fitC_rel (tab := tab) (g := g) (obj := obj) (w := w) hcond.1).2
            cases z <;> simp_all [Value.cells, Value.oneCell']
          · cases hzv
        · cases hzv
    · cases hzv
  have grow : ∀ (id ver : Nat) (xs ys : List (List D)) (base A : Option Addr) (sCap c : Nat), okTok obj id ver (P.cellsOf e) → (∀ r ∈ xs, r.length = P.cellsOf e) → (∀ r ∈ ys, r.length = P.cellsOf e) →
      (xs = [] ∨ ∃ b o, base = some (cellAt b o) ∧ DRows tab g.im w b o xs) → (ys = [] ∨ ∃ b o, A = some (cellAt b o) ∧ DRows tab g.im w b o ys) → roomy (xs.length + ys.length) (P.bytesOf e) = true → sCap < xs.length + ys.length →
      ∃ g' v w', (Builtin.append_ #[t, u] ty #[.slice base xs.length sCap, .slice A ys.length c]).run P w = .ok v w' ∧ Post tab g obj w g' (updO obj id (some (.tok ver (P.cellsOf e)))) w' ∧
        VRel tab g' (updO obj id (some (.tok ver (P.cellsOf e)))) w' (.own id ver (P.cellsOf e) (xs ++ ys)) v := by
    intro id ver xs ys base A sCap c hT hxs hys hX hY hr hg
    obtain ⟨r1, r2⟩ := roomy_le hr hb
    obtain ⟨us, k1, k2, k3, _⟩ := firstCells_of (P := P) (c := sCap) hxs hX
    obtain ⟨vs, m1, m2, m3, _⟩ := firstCells_of (P := P) (c := c) hys hY
    rw [← his] at k3 m3
    have hrun := run_append_more (w := w) (ty := ty) ht hu hi hiz base A xs.length sCap ys.length c us vs k3 m3 hg (by omega) (growslice_fits hg (by rw [hib]; omega))
    have hge := grownCap_ge w (xs.length + ys.length) sCap e
    have hfl : (xs ++ ys).flatten = xs.flatten ++ ys.flatten := List.flatten_append ..
    obtain ⟨g', h1, h2⟩ := app_new (dr := w.drawn + 1) (e := e) (cap := grownCap w (xs.length + ys.length) sCap e) (zs := xs ++ ys) (us := us ++ vs) (rest := (Builtin.zeroCells z.cells (grownCap w (xs.length + ys.length) sCap e - (xs.length + ys.length))).toList) hH hT
      (by rw [hfl]; exact k1.append m1) (fun r hr => (List.mem_append.1 hr).elim (hxs r) (hys r)) (by rw [List.length_append]; exact hge)
      (by rw [Array.length_toList, size_zeroCells, hzs, List.length_append])
    rw [List.length_append] at h2
    exact ⟨g', _, _, hrun, h1, h2⟩
  have hids : ∀ x, (Cop.ids (.app (P.cellsOf e) (P.bytesOf e) a b) [x, y]) = (match x with | .own id _ _ _ => [id] | _ => []) := by
    intro x; cases x <;> rfl
  cases x with
  | nil n =>
    simp only [Cop.ids, List.map_nil, actApp] at h
    split at h
    · rename_i ys hys
      split at h
      · rename_i hr
        cases h
        obtain ⟨A, c, rfl, hs, hY⟩ := moreOf_rel hys hy
        simp only [VRel] at hx
        subst hx
        refine ⟨fresh, 0, ys, rfl, ⟨⟨0, 0, .inr trivial⟩, .inl ⟨rfl, rfl, rfl, rfl⟩⟩, ?_⟩
        by_cases hn : ys = []
        · subst hn
          refine ⟨_, _, _, run_append_none ht hu hc none A 0 0 c (Nat.le_refl _), app_same hH (.inl hf) 0 0 0 (.inr rfl), VRel_own ?_ (updO_same _ _ _) ⟨none, 0, rfl, .inl rfl⟩⟩
          simp only [DRel]; exact ⟨none, 0, rfl, Nat.le_refl _, by simp, .inl trivial⟩
        · have hpos : 0 < ys.length := List.length_pos_iff.2 hn
          have := grow fresh 0 [] ys none A 0 c (.inl hf) (by simp) hs (.inl rfl) hY (by simpa using hr) (by simpa using hpos)
          simpa using this
      · cases h
    · cases h
  | own id ver sz xs =>
    simp only [Cop.ids, List.map_cons, List.map_nil] at h
    have hx0 := hx
    simp only [VRel] at hx
    obtain ⟨hd, ver', sz', ho, hle, hx⟩ := hx
    simp only [actApp, ho] at h
    split at h
    · rename_i he
      obtain ⟨he1, he2, he3⟩ := he
      subst he1; subst he2; subst he3
      obtain ⟨_, A0, c0, hxv, hsp⟩ := hx rfl
      split at h
      · rename_i ys hys
        split at h
        · rename_i hr
          cases h
          obtain ⟨A, c, rfl, hs, hY⟩ := moreOf_rel hys hy
          simp only [DRel] at hd
          obtain ⟨A1, c1, hxv1, hlc, hxs, hX⟩ := hd
          rw [hxv1] at hxv
          injection hxv with q1 q2 q3
          subst q1; subst q3; subst hxv1
          refine ⟨id, ver + 1, xs ++ ys, rfl, ⟨⟨0, 0, .inr trivial⟩, .inr ⟨rfl, rfl, rfl⟩⟩, ?_⟩
          by_cases hn : ys = []
          · subst hn
            have hrun := run_append_none (w := w) (ty := ty) ht hu hc A1 A xs.length c1 c hlc
            simp only [List.append_nil, List.length_nil]
            refine ⟨_, _, _, hrun, app_same hH (.inr ⟨ver, by omega, ho⟩) (g.at_ id).blk (g.at_ id).lo (g.at_ id).cnt (.inl ⟨⟨ver, ho⟩, rfl⟩), VRel_own ?_ (updO_same _ _ _) ⟨A1, c1, rfl, ?_⟩⟩
            · simp only [DRel]; exact ⟨A1, c1, rfl, hlc, hxs, hX⟩
            · refine hsp.imp (fun h => h) fun ⟨b, o, k1, k2⟩ => ⟨b, o, k1, ?_⟩
              show updP g.at_ id _ id = _
              rw [updP_same, k2]
          · by_cases hroom : xs.length + ys.length ≤ c1
            · have hpos : 0 < ys.length := List.length_pos_iff.2 hn
              rcases hsp with hsp | ⟨b, o, k1, k2⟩
              · omega
              · subst k1
                obtain ⟨vs, m1, m2, m3, m4⟩ := firstCells_of (P := P) (c := c) hs hY
                rcases hY with hY | ⟨b', o', rfl, hY⟩
                · exact absurd hY hn
                · have hXr : DRows tab g.im w b o xs := by
                    rcases hX with hX | ⟨b2, o2, q, hX⟩
                    · subst hX; simp [DRows]
                    · injection q with q; injection q with q1 q2; subst q1; subst q2; exact hX
                  obtain ⟨c1', c2', g', h1, h2⟩ := app_room hH ho (Nat.lt_succ_self ver) hXr hxs k2 hroom m1 hs
                  obtain ⟨d, hd⟩ : ∃ d, P.underlying u = some (.slice d) := by
                    unfold isSliceT at hu
                    split at hu
                    · exact ⟨_, by assumption⟩
                    · cases hu
                  have hst := run_storeCells_cells (P := P) b (o + xs.length * P.cellsOf e) vs 0 w (by simpa using c1') (by simpa using c2') m1.ones
                  simp only [Nat.add_zero] at hst
                  have hfc := m3 w (fun _ _ => rfl)
                  have hadd : (cellAt b o).add (xs.length * P.cellsOf e) = cellAt b (o + xs.length * P.cellsOf e) := add_at _ _ _
                  refine ⟨g', _, _, ?_, h1, h2⟩
                  simp [Builtin.append_, run_underlying ht, run_underlying hd, run_size hc, Builtin.lenOf, hroom, hfc, hadd, hst]
            · exact grow id (ver + 1) xs ys A1 A c1 c (.inr ⟨ver, by omega, ho⟩) hxs hs hX hY hr (by omega)
        · cases h
      · cases h
    · cases h
  | _ => simp [Cop.ids, actApp] at h

end
end Ab

/-
  Each operation of the interpreter is the model's: what is built, cut, indexed, compared.
-/
namespace Ab
open Go
open Go.RowKit (Below)
set_option linter.unusedVariables false

section
variable {P : Program} {tab : Tab} {g : Gh} {obj : Nat → Option Obj} {w : World}

theorem zeroOf_rel {t : TypeId} {zv : V} (h : zeroOf P t = some zv) (g : Gh) (obj : Nat → Option Obj) (w : World) : ∃ i z, P.info? t = some i ∧ i.zero = some z ∧ zv.cel = some zv.cells ∧ CList tab g obj w zv.cells z.cells.toList ∧ zv.cells.length = P.cellsOf t ∧ VRel tab g obj w zv z := by
  unfold zeroOf at h
  split at h
  · rename_i cs z hcs hz0
    cases hi : P.info? t with
    | none => simp [hi] at hz0
    | some i =>
      simp only [hi, Option.bind_some] at hz0
      refine ⟨i, z, rfl, hz0, ?_⟩
      split at h
      · split at h
        · rename_i hcond
          cases h
          simp only [Bool.and_eq_true, decide_eq_true_eq] at hcond
          have hv := fitV_rel (tab := tab) (g := g) (obj := obj) (w := w) hcond.1
          exact ⟨rfl, cel_rel rfl hv, hcond.2, hv⟩
        · cases h
      · split at h
        · rename_i c
          split at h
          · rename_i hcond
            cases h
            simp only [Bool.and_eq_true, decide_eq_true_eq] at hcond
            have hv := (fitC_rel (tab := tab) (g := g) (obj := obj) (w := w) hcond.1).1
            have hcel : zv.cel = some zv.cells ∧ zv.cells.length = 1 := by
              have := hcond.1
              cases zv <;> simp [fitC, V.cel, V.cells] at *
            exact ⟨hcel.1, cel_rel hcel.1 hv, by omega, hv⟩
          · cases h
        · cases h
  · cases h

/-! ### build -/

theorem foldl_set_at : ∀ (vs : List Value) (k off : Nat) (cells : Array Value), off + k + vs.length ≤ cells.size → ∀ q : Nat,
    ((vs.zipIdx k).foldl (fun (cs : Array Value) (p : Value × Nat) => cs.setIfInBounds (off + p.2) p.1) cells)[q]? = if off + k ≤ q ∧ q < off + k + vs.length then vs[q - (off + k)]? else cells[q]?
  | [], k, off, cells, h, q => by rw [if_neg (by simp only [List.length_nil]; omega)]; rfl
  | v :: vs, k, off, cells, h, q => by
    simp only [List.zipIdx_cons, List.foldl_cons]
    simp only [List.length_cons] at *
    rw [foldl_set_at vs (k + 1) off _ (by simp; omega) q]
    by_cases h2 : q = off + k
    · subst h2
      rw [if_neg (by omega), if_pos (by omega), Array.getElem?_setIfInBounds_self_of_lt (by omega), Nat.sub_self]
      rfl
    · rw [Array.getElem?_setIfInBounds_ne (by omega)]
      by_cases h3 : off + k ≤ q ∧ q < off + k + (vs.length + 1)
      · rw [if_pos (by omega), if_pos h3]
        obtain ⟨m, rfl⟩ : ∃ m, q = off + k + 1 + m := ⟨q - (off + k + 1), by omega⟩
        rw [show off + k + 1 + m - (off + (k + 1)) = m by omega, show off + k + 1 + m - (off + k) = m + 1 by omega, List.getElem?_cons_succ]
      · rw [if_neg (by omega), if_neg h3]

theorem foldl_set (vs : List Value) (off : Nat) (cells : Array Value) (h : off + vs.length ≤ cells.size) :
    (vs.zipIdx.foldl (fun (cs : Array Value) (p : Value × Nat) => cs.setIfInBounds (off + p.2) p.1) cells).toList = cells.toList.take off ++ vs ++ cells.toList.drop (off + vs.length) := by
  apply List.ext_getElem?
  intro q
  rw [Array.getElem?_toList, foldl_set_at vs 0 off cells (by omega) q]
  have e2 : (cells.toList.take off).length = off := by simp; omega
  by_cases h1 : q < off
  · rw [if_neg (by omega), List.append_assoc, List.getElem?_append_left (by omega), List.getElem?_take, if_pos h1, Array.getElem?_toList]
  · by_cases h3 : q < off + vs.length
    · rw [if_pos (by omega), List.append_assoc, List.getElem?_append_right (by omega), List.getElem?_append_left (by omega), e2, Nat.add_zero]
    · rw [if_neg (by omega), List.append_assoc, List.getElem?_append_right (by omega), List.getElem?_append_right (by omega), e2, List.getElem?_drop, Array.getElem?_toList]
      congr 1
      omega

theorem fill_rel {place : Nat → Option (Nat × Nat)} : ∀ {is : List Nat} {ps : List (Nat × Nat × V)} {us : List Value} {cs cs' : List V} {cells : Array Value}, is.length = ps.length →
    (∀ (j : Nat) i off n v, is[j]? = some i → ps[j]? = some (off, n, v) → place i = some (off, n)) → VList tab g obj w (ps.map (·.2.2)) us → CList tab g obj w cs cells.toList → fillV cs ps = some cs' →
    ∃ cells', Instr.fill place cells (is.zip us) = some cells' ∧ CList tab g obj w cs' cells'.toList
  | [], [], [], cs, cs', cells, _, _, _, hc, h => by simp only [fillV, Option.some.injEq] at h; subst h; exact ⟨cells, rfl, hc⟩
  | i :: is, (off, n, v) :: ps, u :: us, cs, cs', cells, hl, hp, hv, hc, h => by
    simp only [fillV] at h
    simp only [List.map_cons, VList] at hv
    split at h
    · rename_i c hcel
      split at h
      · rename_i hn
        split at h
        · rename_i cs1 hov
          obtain ⟨hle, rfl⟩ := over_some hov
          have hu := cel_rel hcel hv.1
          have hul := hu.length
          have hcl := hc.length
          have hpl := hp 0 i off n v rfl rfl
          have hsz : u.cells.size = n := by simpa [hn] using hul
          have hcell : (u.cells.zipIdx.foldl (fun cs (c, j) => cs.setIfInBounds (off + j) c) cells).toList = cells.toList.take off ++ u.cells.toList ++ cells.toList.drop (off + c.length) := by
            rw [← Array.foldl_toList, Array.toList_zipIdx]
            have := foldl_set u.cells.toList off cells (by simp at hcl ⊢; omega)
            rw [hul] at this
            simpa using this
          obtain ⟨cells', k1, k2⟩ := fill_rel (place := place) (is := is) (ps := ps) (us := us) (cs := cs.take off ++ c ++ cs.drop (off + c.length)) (cs' := cs') (cells := u.cells.zipIdx.foldl (fun cs (c, j) => cs.setIfInBounds (off + j) c) cells)
            (by simpa using hl) (fun j i off n v h1 h2 => hp (j + 1) i off n v (by simpa using h1) (by simpa using h2)) hv.2
            (by rw [hcell]; exact ((hc.take off).append hu).append (hc.drop (off + c.length))) h
          refine ⟨cells', ?_, k2⟩
          simp only [List.zip_cons_cons, Instr.fill, hpl]
          have hno : (u.cells.size ≠ n || decide (off + u.cells.size > cells.size)) = false := by
            simp at hcl
            simp [hsz]; omega
          rw [hno]
          exact k1
        · cases h
      · cases h
    · cases h
  | [], _ :: _, _, _, _, _, hl, _, _, _, _ => by simp at hl
  | _ :: _, [], _, _, _, _, hl, _, _, _, _ => by simp at hl
  | [], [], _ :: _, _, _, _, _, _, hv, _, _ => by simp only [List.map_nil, VList] at hv
  | _ :: _, _ :: _, [], _, _, _, _, _, hv, _, _ => by simp only [List.map_cons, VList] at hv

theorem structParts_rel {fs : Array Field} : ∀ {ps : List (Nat × Operand)} {as : List (Nat × Nat × A)}, structParts P tab fs ps = some as → ∀ {get : Nat → V} {act : Act}, (∀ t, VRel tab g obj w (get t) (act.tmps.getD t undef)) →
    ps.length = as.length ∧ VList tab g obj w (as.map fun p => evA get p.2.2) (ps.map fun p => act.eval p.2) ∧ ∀ (j : Nat) i x off n a, ps[j]? = some (i, x) → as[j]? = some (off, n, a) → ∃ f, fs[i]? = some f ∧ off = f.offset ∧ n = P.cellsOf f.type
  | [], as, h, get, act, hT => by simp [structParts] at h; subst h; simp [VList]
  | (i, x) :: ps, as, h, get, act, hT => by
    simp only [structParts] at h
    split at h
    · rename_i f hf
      split at h
      · rename_i a as' h1 h2
        cases h
        obtain ⟨k1, k2, k3⟩ := structParts_rel h2 hT
        refine ⟨by simp [k1], ?_, fun j => ?_⟩
        · simp only [List.map_cons, VList]; exact ⟨compA_rel h1 hT, k2⟩
        · cases j with
          | zero => intro i' x' off n a' e1 e2; simp at e1 e2; obtain ⟨rfl, rfl⟩ := e1; obtain ⟨rfl, rfl, rfl⟩ := e2; exact ⟨f, hf, rfl, rfl⟩
          | succ j => intro i' x' off n a' e1 e2; exact k3 j i' x' off n a' (by simpa using e1) (by simpa using e2)
      · cases h
    · cases h

theorem arrayParts_rel {e : TypeId} : ∀ {ps : List (Nat × Operand)} {as : List (Nat × Nat × A)}, arrayParts P tab e ps = some as → ∀ {get : Nat → V} {act : Act}, (∀ t, VRel tab g obj w (get t) (act.tmps.getD t undef)) →
    ps.length = as.length ∧ VList tab g obj w (as.map fun p => evA get p.2.2) (ps.map fun p => act.eval p.2) ∧ ∀ (j : Nat) i x off n a, ps[j]? = some (i, x) → as[j]? = some (off, n, a) → off = i * P.cellsOf e ∧ n = P.cellsOf e
  | [], as, h, get, act, hT => by simp [arrayParts] at h; subst h; simp [VList]
  | (i, x) :: ps, as, h, get, act, hT => by
    simp only [arrayParts] at h
    split at h
    · rename_i a as' h1 h2
      cases h
      obtain ⟨k1, k2, k3⟩ := arrayParts_rel h2 hT
      refine ⟨by simp [k1], ?_, fun j => ?_⟩
      · simp only [List.map_cons, VList]; exact ⟨compA_rel h1 hT, k2⟩
      · cases j with
        | zero => intro i' x' off n a' e1 e2; simp at e1 e2; obtain ⟨rfl, rfl⟩ := e1; obtain ⟨rfl, rfl, rfl⟩ := e2; exact ⟨rfl, rfl⟩
        | succ j => intro i' x' off n a' e1 e2; exact k3 j i' x' off n a' (by simpa using e1) (by simpa using e2)
    · cases h

theorem zipP_map {get : Nat → V} : ∀ (as : List (Nat × Nat × A)), zipP as ((as.map (·.2.2)).map (evA get)) = as.map fun p => (p.1, p.2.1, evA get p.2.2)
  | [] => rfl
  | (a, b, c) :: as => by simp only [List.map_cons, zipP, zipP_map as]
theorem zipI_map {get : Nat → V} : ∀ (as : List (Nat × A)), zipI as ((as.map (·.2)).map (evA get)) = as.map fun p => (p.1, evA get p.2)
  | [] => rfl
  | (a, c) :: as => by simp only [List.map_cons, zipI, zipI_map as]

theorem zip_fst_map {α β γ : Type} (f : β → γ) : ∀ (ps : List (α × β)), (ps.map (·.1)).zip (ps.map fun p => f p.2) = ps.map fun p => (p.1, f p.2)
  | [] => rfl
  | p :: ps => by simp [zip_fst_map f ps]

theorem build_struct {t : TypeId} {fs : Array Field} (hu : P.underlying t = some (.struct fs)) (hall : (fs.toList.all fun f => (P.info? f.type).isSome) = true) {z : List V} (hz : zeroOf P t = some (.agg z)) {ps : List (Nat × Operand)} {as : List (Nat × Nat × A)}
    (hp : structParts P tab fs ps = some as) {get : Nat → V} {act : Act} (hT : ∀ t, VRel tab g obj w (get t) (act.tmps.getD t undef)) {cs : List V} (h : fillV z (zipP as ((as.map (·.2.2)).map (evA get))) = some cs) :
    ∃ cells, P.built t (ps.map fun p => (p.1, act.eval p.2)) = some cells ∧ CList tab g obj w cs cells.toList := by
  obtain ⟨i, z0, hi, hz0, _, hzc, _, _⟩ := zeroOf_rel (tab := tab) hz g obj w
  obtain ⟨k1, k2, k3⟩ := structParts_rel hp hT
  rw [zipP_map] at h
  have hplaces : ∀ (l : List Field), (l.all fun f => (P.info? f.type).isSome) = true → l.mapM (fun f => (P.info? f.type).map fun i => (f.offset, i.size)) = some (l.map fun f => (f.offset, P.cellsOf f.type)) := by
    intro l
    induction l with
    | nil => intro _; rfl
    | cons f l ih =>
      intro ha
      simp only [List.all_cons, Bool.and_eq_true] at ha
      obtain ⟨i, hi⟩ := Option.isSome_iff_exists.1 ha.1
      simp [List.mapM_cons, hi, ih ha.2, Program.cellsOf]
  unfold Program.built
  simp only [hi, hu, hz0, hplaces _ hall]
  have := fill_rel (tab := tab) (g := g) (obj := obj) (w := w) (place := fun x => ((fs.toList.map fun f => (f.offset, P.cellsOf f.type)).toArray)[x]?) (is := ps.map (·.1)) (ps := as.map fun p => (p.1, p.2.1, evA get p.2.2)) (us := ps.map fun p => act.eval p.2) (cs := z) (cs' := cs) (cells := z0.cells)
    (by simp [k1]) (fun j i off n v e1 e2 => by
      rw [List.getElem?_map] at e1 e2
      cases hpj : ps[j]? with
      | none => simp [hpj] at e1
      | some p =>
        cases haj : as[j]? with
        | none => simp [haj] at e2
        | some a =>
          simp [hpj] at e1
          simp [haj] at e2
          obtain ⟨f, m1, m2, m3⟩ := k3 j p.1 p.2 a.1 a.2.1 a.2.2 hpj haj
          obtain ⟨rfl, rfl, rfl⟩ := e2
          subst e1
          simp only [List.getElem?_toArray, List.getElem?_map, Array.getElem?_toList, m1, Option.map_some]
          rw [← m2, ← m3]) (by rw [List.map_map]; exact k2) hzc h
  obtain ⟨cells, m1, m2⟩ := this
  rw [zip_fst_map] at m1
  exact ⟨cells, m1, m2⟩

theorem build_array {t e : TypeId} {n : Nat} (hu : P.underlying t = some (.array n e)) (hall : (P.info? e).isSome = true) {z : List V} (hz : zeroOf P t = some (.agg z)) {ps : List (Nat × Operand)} {as : List (Nat × Nat × A)}
    (hp : arrayParts P tab e ps = some as) {get : Nat → V} {act : Act} (hT : ∀ t, VRel tab g obj w (get t) (act.tmps.getD t undef)) {cs : List V} (h : fillV z (zipP as ((as.map (·.2.2)).map (evA get))) = some cs) :
    ∃ cells, P.built t (ps.map fun p => (p.1, act.eval p.2)) = some cells ∧ CList tab g obj w cs cells.toList := by
  obtain ⟨i, z0, hi, hz0, _, hzc, _, _⟩ := zeroOf_rel (tab := tab) hz g obj w
  obtain ⟨k1, k2, k3⟩ := arrayParts_rel hp hT
  rw [zipP_map] at h
  obtain ⟨ie, hie⟩ := Option.isSome_iff_exists.1 hall
  have hsz : ie.size = P.cellsOf e := by unfold Program.cellsOf; simp [hie]
  unfold Program.built
  simp only [hi, hu, hz0, hie, hsz]
  have := fill_rel (tab := tab) (g := g) (obj := obj) (w := w) (place := fun i => some (i * P.cellsOf e, P.cellsOf e)) (is := ps.map (·.1)) (ps := as.map fun p => (p.1, p.2.1, evA get p.2.2)) (us := ps.map fun p => act.eval p.2) (cs := z) (cs' := cs) (cells := z0.cells)
    (by simp [k1]) (fun j i off n v e1 e2 => by
      rw [List.getElem?_map] at e1 e2
      cases hpj : ps[j]? with
      | none => simp [hpj] at e1
      | some p =>
        cases haj : as[j]? with
        | none => simp [haj] at e2
        | some a =>
          simp [hpj] at e1
          simp [haj] at e2
          obtain ⟨m2, m3⟩ := k3 j p.1 p.2 a.1 a.2.1 a.2.2 hpj haj
          obtain ⟨rfl, rfl, rfl⟩ := e2
          subst e1
          rw [m2, m3]) (by rw [List.map_map]; exact k2) hzc h
  obtain ⟨cells, m1, m2⟩ := this
  rw [zip_fst_map] at m1
  exact ⟨cells, m1, m2⟩
end
end Ab

/-
  Each operation of the interpreter is the model's: slices written out, cuts, numbers, texts.
-/
namespace Ab
open Go
open Go.RowKit (Below)
set_option linter.unusedVariables false

section
variable {P : Program} {tab : Tab} {g : Gh} {obj : Nat → Option Obj} {w : World}

theorem zero_rows (z : Array Value) (hz : z.size ≠ 0) : ∀ n : Nat, ((Array.range (n * z.size)).map fun i => z[i % z.size]!).toList = (List.replicate n z.toList).flatten
  | 0 => by simp
  | n + 1 => by
    have ih := zero_rows z hz n
    simp only [Array.toList_map, Array.toList_range] at *
    rw [Nat.add_mul, Nat.one_mul, Nat.add_comm (n * z.size), List.range_add, List.map_append, List.map_map, List.replicate_succ, List.flatten_cons, ← ih]
    congr 1
    · apply List.ext_getElem?
      intro q
      rw [List.getElem?_map]
      rcases Nat.lt_or_ge q z.size with h | h
      · rw [List.getElem?_range h, Option.map_some, Nat.mod_eq_of_lt h, Array.getElem?_toList, Array.getElem?_eq_getElem h, getElem!_pos z q h]
      · rw [List.getElem?_eq_none (by simp; omega), Array.getElem?_toList, Array.getElem?_eq_none h]; rfl
    · apply List.map_congr_left
      intro i _
      simp

theorem set_flatten : ∀ {xs : List (List D)} {i sz : Nat} {ds : List D}, (∀ r ∈ xs, r.length = sz) → ds.length = sz → i < xs.length → (xs.set i ds).flatten = xs.flatten.take (i * sz) ++ ds ++ xs.flatten.drop (i * sz + sz)
  | x :: xs, 0, sz, ds, h, hd, _ => by
    have hx : x.length = sz := h x (by simp)
    simp only [List.set_cons_zero, List.flatten_cons, Nat.zero_mul, List.take_zero, List.nil_append, Nat.zero_add]
    rw [← hx, List.drop_append_of_le_length (Nat.le_refl _), List.drop_length, List.nil_append]
  | x :: xs, i + 1, sz, ds, h, hd, hi => by
    have hx : x.length = sz := h x (by simp)
    have ih := set_flatten (xs := xs) (i := i) (sz := sz) (ds := ds) (fun r hr => h r (by simp [hr])) hd (by simpa using hi)
    simp only [List.set_cons_succ, List.flatten_cons, ih]
    have t1 : ∀ (k : Nat) (l : List D), (x ++ l).take (x.length + k) = x ++ l.take k := fun k l => by rw [List.take_append, List.take_of_length_le (by omega), Nat.add_sub_cancel_left]
    have t2 : ∀ (k : Nat) (l : List D), (x ++ l).drop (x.length + k) = l.drop k := fun k l => by rw [List.drop_append, List.drop_of_length_le (by omega), Nat.add_sub_cancel_left, List.nil_append]
    rw [show (i + 1) * sz = x.length + i * sz by rw [Nat.add_mul, hx]; omega, show x.length + i * sz + sz = x.length + (i * sz + sz) by omega, t1, t2]
    simp

theorem fillR_rel {sz : Nat} : ∀ {is : List Nat} {vs : List V} {us : List Value} {xs xs' : List (List D)} {cells : Array Value}, is.length = vs.length → VList tab g obj w vs us → (∀ r ∈ xs, r.length = sz) →
    DList tab g.im w xs.flatten cells.toList → fillR sz xs (is.zip vs) = some xs' →
    ∃ cells', Instr.fill (fun i => some (i * sz, sz)) cells (is.zip us) = some cells' ∧ (∀ r ∈ xs', r.length = sz) ∧ xs'.length = xs.length ∧ DList tab g.im w xs'.flatten cells'.toList
  | [], [], [], xs, xs', cells, _, _, hs, hd, h => by simp only [List.zip_nil_left, fillR, Option.some.injEq] at h; subst h; exact ⟨cells, rfl, hs, rfl, hd⟩
  | i :: is, v :: vs, u :: us, xs, xs', cells, hl, hv, hs, hd, h => by
    simp only [VList] at hv
    simp only [List.zip_cons_cons, fillR] at h
    split at h
    · rename_i ds hds
      split at h
      · rename_i hcond
        obtain ⟨hdl, hi⟩ := hcond
        have hc := cel_rel (toDs_cel hds) hv.1
        have hu : DList tab g.im w ds u.cells.toList := toDs_rel hds hc.toV
        have hul := hu.length
        have hcl := hd.length
        rw [flatten_length hs] at hcl
        have hle : (i + 1) * sz ≤ xs.length * sz := Nat.mul_le_mul_right _ hi
        rw [Nat.add_mul] at hle
        have hsz : u.cells.size = sz := by simp at hul; omega
        have hcell : (u.cells.zipIdx.foldl (fun cs (c, j) => cs.setIfInBounds (i * sz + j) c) cells).toList = cells.toList.take (i * sz) ++ u.cells.toList ++ cells.toList.drop (i * sz + sz) := by
          rw [← Array.foldl_toList, Array.toList_zipIdx]
          have := foldl_set u.cells.toList (i * sz) cells (by simp at hcl ⊢; omega)
          rw [hul, hdl] at this
          simpa using this
        have hsl : ∀ r ∈ xs.set i ds, r.length = sz := fun r hr => by
          rcases List.mem_or_eq_of_mem_set hr with h | h
          · exact hs r h
          · subst h; exact hdl
        obtain ⟨cells', k1, k2, k3, k4⟩ := fillR_rel (sz := sz) (is := is) (vs := vs) (us := us) (xs := xs.set i ds) (xs' := xs') (cells := u.cells.zipIdx.foldl (fun cs (c, j) => cs.setIfInBounds (i * sz + j) c) cells)
          (by simpa using hl) hv.2 hsl (by
            rw [hcell, set_flatten hs hdl hi]
            exact ((hd.take _).append hu).append (hd.drop _)) h
        refine ⟨cells', ?_, k2, by rw [k3]; simp, k4⟩
        simp only [List.zip_cons_cons, Instr.fill]
        have hno : (u.cells.size ≠ sz || decide (i * sz + u.cells.size > cells.size)) = false := by
          simp at hcl
          simp [hsz]; omega
        rw [hno]
        exact k1
      · cases h
    · cases h
  | [], _ :: _, _, _, _, _, hl, _, _, _, _ => by simp at hl
  | _ :: _, [], _, _, _, _, hl, _, _, _, _ => by simp at hl
  | [], [], _ :: _, _, _, _, _, hv, _, _, _ => by simp only [VList] at hv
  | _ :: _, _ :: _, [], _, _, _, _, hv, _, _, _ => by simp only [VList] at hv

theorem sliceParts_rel {e : TypeId} : ∀ {ps : List (Nat × Operand)} {as : List (Nat × A)}, sliceParts P tab e ps = some as → ∀ {get : Nat → V} {act : Act}, (∀ t, VRel tab g obj w (get t) (act.tmps.getD t undef)) →
    ps.map (·.1) = as.map (·.1) ∧ VList tab g obj w (as.map fun p => evA get p.2) (ps.map fun p => act.eval p.2)
  | [], as, h, get, act, hT => by simp [sliceParts] at h; subst h; simp [VList]
  | (i, x) :: ps, as, h, get, act, hT => by
    simp only [sliceParts] at h
    split at h
    · rename_i a as' h1 h2
      cases h
      obtain ⟨k1, k2⟩ := sliceParts_rel h2 hT
      refine ⟨by simp [k1], ?_⟩
      simp only [List.map_cons, VList]; exact ⟨compA_rel h1 hT, k2⟩
    · cases h

theorem zipI_zip : ∀ (as : List (Nat × A)) (get : Nat → V), (as.map fun p => (p.1, evA get p.2)) = (as.map (·.1)).zip (as.map fun p => evA get p.2)
  | [], _ => rfl
  | a :: as, get => by simp [zipI_zip as get]

theorem bsl_sound (hH : HRel tab g obj w) {t e : TypeId} (hu : P.underlying t = some (.slice e)) {z : V} (hz : zeroOf P e = some z) {zd : List D} (hzd : V.toDs z.cells = some zd) {ps : List (Nat × Operand)} {as : List (Nat × A)}
    (hp : sliceParts P tab e ps = some as) (hc : P.cellsOf e ≠ 0) (hzl : zd.length = P.cellsOf e) {n : Nat} (hn : n * P.cellsOf e ≤ 16777216) {get : Nat → V} {act : Act} (hT : ∀ t, VRel tab g obj w (get t) (act.tmps.getD t undef))
    {xs : List (List D)} (h : fillR (P.cellsOf e) (List.replicate n zd) (zipI as ((as.map (·.2)).map (evA get))) = some xs) {fresh : Nat} (hf : obj fresh = none) :
    ∃ g' v w', (Instr.buildSlice t n (ps.map fun p => (p.1, act.eval p.2)).toArray).run P w = .ok v w' ∧ Post tab g obj w g' (updO obj fresh (some (.tok 0 (P.cellsOf e)))) w' ∧
      VRel tab g' (updO obj fresh (some (.tok 0 (P.cellsOf e)))) w' (.own fresh 0 (P.cellsOf e) xs) v := by
  obtain ⟨i, z0, hi, hz0, hcel, hzc, hzlen, _⟩ := zeroOf_rel (tab := tab) hz g obj w
  have hzd' : DList tab g.im w zd z0.cells.toList := toDs_rel hzd hzc.toV
  have hzs : z0.cells.size = P.cellsOf e := by have := hzd'.length; simp at this; omega
  obtain ⟨k1, k2⟩ := sliceParts_rel hp hT
  rw [zipI_map, zipI_zip] at h
  have hrep : ∀ (n : Nat), (∀ r ∈ List.replicate n zd, r.length = P.cellsOf e) ∧ DList tab g.im w (List.replicate n zd).flatten (List.replicate n z0.cells.toList).flatten := by
    intro n
    refine ⟨fun r hr => by rw [(List.mem_replicate.1 hr).2]; exact hzl, ?_⟩
    induction n with
    | zero => simp [DList]
    | succ n ih => simp only [List.replicate_succ, List.flatten_cons]; exact hzd'.append ih
  have hinit := zero_rows z0.cells (by omega) n
  rw [hzs] at hinit
  obtain ⟨cells, m1, m2, m3, m4⟩ := fillR_rel (tab := tab) (g := g) (obj := obj) (w := w) (sz := P.cellsOf e) (is := as.map (·.1)) (vs := as.map fun p => evA get p.2) (us := ps.map fun p => act.eval p.2) (xs := List.replicate n zd) (xs' := xs)
    (cells := (Array.range (n * P.cellsOf e)).map fun i => z0.cells[i % P.cellsOf e]!) (by simp) k2 (hrep n).1 (by rw [hinit]; exact (hrep n).2) h
  rw [← k1, zip_fst_map] at m1
  have hxl : xs.length = n := by rw [m3]; simp
  obtain ⟨g', h1, h2⟩ := app_new (dr := w.drawn) (e := e) (id := fresh) (ver := 0) (cap := n) (rest := []) hH (.inl hf) m4 m2 (by omega) (by simp [hxl])
  have hwd : wd w w.drawn = w := rfl
  rw [hwd, List.append_nil] at h1 h2
  refine ⟨g', _, _, ?_, h1, h2⟩
  have hlim : ¬ (16777216 < n * P.cellsOf e) := by omega
  have hzv : (zeroValue e).run P w = .ok z0 w := by simp [zeroValue, typeInfo, hi, hz0]
  have fin : ∀ zz : Array Value, ((Array.range (n * P.cellsOf e)).map fun i => zz[i % zz.size]!) = ((Array.range (n * P.cellsOf e)).map fun i => z0.cells[i % P.cellsOf e]!) →
      (match Instr.fill (fun i => some (i * P.cellsOf e, P.cellsOf e)) ((Array.range (n * P.cellsOf e)).map fun i => zz[i % zz.size]!) (ps.map fun p => (p.1, act.eval p.2)) with
        | some cells => do
          let a ← newRow e cells
          pure (Value.slice (some a) n n)
        | _ => stuck "buildSlice: a part of the wrong size" : Sem Value).run P w = .ok (.slice (some ⟨w.heap.size, 0, none⟩) n n) (w.alloc (.cells cells.toList.toArray e)) := by
    intro zz hzz
    rw [hzz, m1]
    rfl
  unfold Instr.buildSlice
  simp only [Sem.run_bind, run_underlying hu, run_size hc, Result.andThen_ok, Nat.reducePow, gt_iff_lt, if_neg hlim, Sem.run_pure, hxl]
  by_cases h0 : n * P.cellsOf e = 0
  · rw [if_pos h0]
    exact fin #[] (by rw [h0]; simp)
  · rw [if_neg h0]
    simp only [Sem.run_bind, hzv, Result.andThen_ok, Sem.run_pure]
    exact fin z0.cells (by rw [hzs])
end
end Ab

/-
  Each operation of the interpreter is the model's: one by one.
-/
namespace Ab
open Go
open Go.RowKit (Below)
set_option linter.unusedVariables false

def updL (obj : Nat → Option Obj) : List Nat → List (Option Obj) → Nat → Option Obj
  | i :: is, o :: os => updL (updO obj i o) is os
  | _, _ => obj

def resO (obj : Nat → Option Obj) (wr : Bool) (ids : List Nat) (r : Res) (fresh : Nat) : Nat → Option Obj :=
  let f := if wr then updL obj ids r.os else obj
  match r.nw with
  | some x => updO f fresh (some x)
  | none => f

/-- the objects of a list. -/
def objOf (h : List (Option Obj)) : Nat → Option Obj := fun i => (h[i]?).join

section
variable (P : Program) (tab : Tab)

/-- a contract of one function. -/
def FnOk (fid : Nat) (f : List V → List (Option Obj) → Option (V × List (Option Obj))) : Prop := ∀ args h r h', f args h = some (r, h') → ∀ (g : Gh) (w : World) (vs : List Value),
  HRel tab g (objOf h) w → VList tab g (objOf h) w args vs →
  Calls P fid vs.toArray w fun e w' => ∃ v g', e = .returned v ∧ HRel tab g' (objOf h') w' ∧ Evo g (objOf h) w g' (objOf h') w' ∧ VRel tab g' (objOf h') w' r v

/-- what a call of the interpreter's says of the model's. -/
def CallOk (call : CallF) : Prop := ∀ fid key, keyOf tab fid = some key → FnOk P tab fid (call key)

/-- the functions have bodies. -/
def BodyOk : Prop := ∀ f key, keyOf tab f = some key → ∀ args w, (callFunc f args).run P w = .ok (.enter f args) w

def OkOp (o : Oper) (cop : Cop) : Prop :=
  ∀ (nt : Nat) (g : Gh) (get : Nat → V) (obj : Nat → Option Obj) (a : Act) (w : World), Rel tab nt g get obj a w → ∀ (fresh : Nat) (r : Res), obj fresh = none →
    act cop (cop.args.map (evA get)) ((cop.ids (cop.args.map (evA get))).map obj) fresh = some r →
    ∀ (K : Act → World → Prop) (Q : Exit → Act → World → Prop),
      (∀ g' v w', Post tab g obj w g' (resO obj cop.wr (cop.ids (cop.args.map (evA get))) r fresh) w' → VRel tab g' (resO obj cop.wr (cop.ids (cop.args.map (evA get))) r fresh) w' r.v v → K (a.put o.dst v) w') →
      o.wp P a w K Q
end

section
variable {P : Program} {tab : Tab} {o : Oper}

theorem wp_value {a : Act} {w w' : World} {v : Value} {K : Act → World → Prop} {Q : Exit → Act → World → Prop} (h : (execOp a.eval o).run P w = .ok (.value v) w') (hk : K (a.put o.dst v) w') : o.wp P a w K Q := by
  unfold Oper.wp; rw [h]; exact hk
theorem wp_skip' {a : Act} {w w' : World} {K : Act → World → Prop} {Q : Exit → Act → World → Prop} (h : (execOp a.eval o).run P w = .ok .skip w') (hk : K (a.put o.dst undef) w') : o.wp P a w K Q := by
  unfold Oper.wp; rw [h]; exact hk

theorem undef_rel {g : Gh} {obj : Nat → Option Obj} {w : World} : VRel tab g obj w .undef undef := by
  simp only [V.undef, VRel]
  exact ⟨[], rfl, by simp only [VList]⟩

theorem ok_mv {x : Operand} {cop : Cop} (ho : o.op = .move x ∨ o.op = .assign x) (hc : un1 P tab (some o.type) x .mv = some cop) : OkOp P tab o cop := by
  obtain ⟨a', ha, rfl⟩ := un1_rel hc
  intro nt g get obj a w hR fresh r hf h K Q hK
  simp only [Cop.args, List.map_cons, List.map_nil, act, Option.some.injEq] at h
  subst h
  have hx := compA_rel (w := w) ha hR.tmp
  refine wp_value (v := a.eval x) (w' := w) ?_ (hK g _ _ (.refl hR.heap) hx)
  rcases ho with ho | ho <;> simp [execOp, ho]

theorem ok_pick {c x y : Operand} {c' x' y' : A} (ho : o.op = .pick c x y) {t u v : Option TypeId} (h1 : compA P tab t c = some c') (h2 : compA P tab u x = some x') (h3 : compA P tab v y = some y') : OkOp P tab o (.pick c' x' y') := by
  intro nt g get obj a w hR fresh r hf h K Q hK
  have e1 := compA_rel (w := w) h1 hR.tmp
  have e2 := compA_rel (w := w) h2 hR.tmp
  have e3 := compA_rel (w := w) h3 hR.tmp
  simp only [Cop.args, List.map_cons, List.map_nil, act] at h
  split at h
  · rename_i b p q heq
    injection heq with q1 q2
    injection q2 with q2 q3
    injection q3 with q3 _
    simp only [Option.some.injEq] at h
    subst h
    rw [q1] at e1
    simp only [VRel, DRel] at e1
    refine wp_value (v := if b then a.eval x else a.eval y) (w' := w) ?_ (hK g _ _ (.refl hR.heap) ?_)
    · cases b <;> simp [execOp, ho, e1, asBool]
    · cases b
      · rw [← q3]; exact e3
      · rw [← q2]; exact e2
  · cases h

theorem ok_zero {t : TypeId} {z : V} (ho : o.op = .alloc t) (hz : zeroOf P t = some z) : OkOp P tab o (.zero z) := by
  intro nt g get obj a w hR fresh r hf h K Q hK
  simp only [act, Option.some.injEq] at h
  subst h
  obtain ⟨i, z0, hi, hz0, hcel, hzc, _, _⟩ := zeroOf_rel (tab := tab) hz g obj w
  obtain ⟨g', h1, h2⟩ := post_box hR.heap hf t hzc
  refine wp_value ?_ (hK g' _ _ h1 h2)
  simp [execOp, ho, Instr.alloc, zeroValue, typeInfo, hi, hz0, newVar, newRow]

theorem ok_box {t : TypeId} {x : Operand} {cop : Cop} (ho : o.op = .box t x) (hc : un1 P tab (some t) x .box = some cop) : OkOp P tab o cop := by
  obtain ⟨a', ha, rfl⟩ := un1_rel hc
  intro nt g get obj a w hR fresh r hf h K Q hK
  have hx := compA_rel (w := w) ha hR.tmp
  simp only [Cop.args, List.map_cons, List.map_nil, act] at h
  split at h
  · rename_i c hcel
    simp only [Option.some.injEq] at h
    subst h
    obtain ⟨g', h1, h2⟩ := post_box hR.heap hf t (cel_rel hcel hx)
    refine wp_value ?_ (hK g' _ _ h1 h2)
    simp [execOp, ho, Instr.box, newVar, newRow]
  · cases h

theorem parts_map (ps : Array (Nat × Operand)) (a : Act) : (ps.map fun (i, x) => (i, a.eval x)) = (ps.toList.map fun p => (p.1, a.eval p.2)).toArray := by
  apply Array.ext'
  simp

theorem ok_build_struct {t : TypeId} {ps : Array (Nat × Operand)} {fs : Array Field} {z : List V} {as : List (Nat × Nat × A)} (ho : o.op = .build t ps) (hu : P.underlying t = some (.struct fs)) (hall : (fs.toList.all fun f => (P.info? f.type).isSome) = true)
    (hz : zeroOf P t = some (.agg z)) (hp : structParts P tab fs ps.toList = some as) : OkOp P tab o (.build z as) := by
  intro nt g get obj a w hR fresh r hf h K Q hK
  simp only [Cop.args, act] at h
  split at h
  · rename_i cs hcs
    simp only [Option.some.injEq] at h
    subst h
    obtain ⟨cells, m1, m2⟩ := build_struct hu hall hz hp hR.tmp hcs
    refine wp_value (v := .agg cells) (w' := w) ?_ (hK g _ _ (.refl hR.heap) ?_)
    · have := run_build w t (ps.toList.map fun p => (p.1, a.eval p.2)).toArray cells (by simpa using m1)
      simp only [execOp, ho, parts_map, Sem.run_bind, this, Result.andThen_ok, Sem.run_pure]
    · simp only [VRel]; exact ⟨cells.toList, by simp, m2⟩
  · cases h

theorem ok_build_array {t e : TypeId} {n : Nat} {ps : Array (Nat × Operand)} {z : List V} {as : List (Nat × Nat × A)} (ho : o.op = .build t ps) (hu : P.underlying t = some (.array n e)) (hall : (P.info? e).isSome = true)
    (hz : zeroOf P t = some (.agg z)) (hp : arrayParts P tab e ps.toList = some as) : OkOp P tab o (.build z as) := by
  intro nt g get obj a w hR fresh r hf h K Q hK
  simp only [Cop.args, act] at h
  split at h
  · rename_i cs hcs
    simp only [Option.some.injEq] at h
    subst h
    obtain ⟨cells, m1, m2⟩ := build_array hu hall hz hp hR.tmp hcs
    refine wp_value (v := .agg cells) (w' := w) ?_ (hK g _ _ (.refl hR.heap) ?_)
    · have := run_build w t (ps.toList.map fun p => (p.1, a.eval p.2)).toArray cells (by simpa using m1)
      simp only [execOp, ho, parts_map, Sem.run_bind, this, Result.andThen_ok, Sem.run_pure]
    · simp only [VRel]; exact ⟨cells.toList, by simp, m2⟩
  · cases h

theorem ok_bsl {t e : TypeId} {n : Nat} {ps : Array (Nat × Operand)} {z : V} {zd : List D} {as : List (Nat × A)} (ho : o.op = .buildSlice t n ps) (hu : P.underlying t = some (.slice e)) (hz : zeroOf P e = some z) (hzd : V.toDs z.cells = some zd)
    (hp : sliceParts P tab e ps.toList = some as) (hc : P.cellsOf e ≠ 0) (hl : zd.length = P.cellsOf e) (hn : n * P.cellsOf e ≤ 16777216) : OkOp P tab o (.bsl (P.cellsOf e) n zd as) := by
  intro nt g get obj a w hR fresh r hf h K Q hK
  simp only [Cop.args, act] at h
  split at h
  · rename_i xs hxs
    simp only [Option.some.injEq] at h
    subst h
    obtain ⟨g', v, w', h1, h2, h3⟩ := bsl_sound hR.heap hu hz hzd hp hc hl hn hR.tmp hxs hf
    refine wp_value ?_ (hK g' _ _ h2 h3)
    simp only [execOp, ho, parts_map, Sem.run_bind, h1, Result.andThen_ok, Sem.run_pure]
  · cases h

theorem ok_ld {t : TypeId} {x : Operand} {cop : Cop} (ho : o.op = .load t x) (hv : okVar P t) (hc : un1 P tab none x (.ld (isAggT P t) (P.cellsOf t)) = some cop) : OkOp P tab o cop := by
  obtain ⟨a', ha, rfl⟩ := un1_rel hc
  intro nt g get obj a w hR fresh r hf h K Q hK
  have hx := compA_rel (w := w) ha hR.tmp
  simp only [Cop.args, List.map_cons, List.map_nil, act, optV] at h
  split at h
  · rename_i v hl
    simp only [Option.some.injEq] at h
    subst h
    obtain ⟨b, q, us, e1, e2, e3, e4⟩ := ld_sound hR.heap hl hx
    refine wp_value ?_ (hK g _ _ (.refl hR.heap) e4)
    simp only [execOp, ho, e1, Instr.loadAt, Instr.sureAddr, Sem.run_bind, Sem.run_pure, Result.andThen_ok, run_loadVar hv e2 e3]
  · cases h

theorem st_sound {g : Gh} {obj : Nat → Option Obj} {w : World} (hH : HRel tab g obj w) {n : Nat} {t : TypeId} (ht : P.cellsOf t = n) (hn : n ≠ 0) {a v : A} {x y : V} {os : List (Option Obj)} (h : actSt n [x, y] ((Cop.ids (.st n a v) [x, y]).map obj) = some os)
    {xv yv : Value} (hx : VRel tab g obj w x xv) (hy : VRel tab g obj w y yv) :
    ∃ g' w', (Instr.storeAt t xv yv).run P w = .ok () w' ∧ Post tab g obj w g' (updL obj (Cop.ids (.st n a v) [x, y]) os) w' := by
  cases x with
  | ptr id off =>
    simp only [Cop.ids, List.map_cons, List.map_nil] at h
    simp only [VRel] at hx
    obtain ⟨_, rfl⟩ := hx
    cases ho : obj id with
    | none => simp [actSt, ho] at h
    | some ob =>
      cases ob with
      | box cs =>
        simp only [actSt, ho] at h
        split at h
        · rename_i c hcel
          split at h
          · rename_i hcn
            split at h
            · rename_i cs' hov
              simp only [Option.some.injEq] at h
              subst h
              have hc := cel_rel hcel hy
              obtain ⟨k1, k2, g', k3⟩ := st_box hH ho hov hc
              refine ⟨g', _, ?_, k3⟩
              simp only [Instr.storeAt, Instr.sureAddr, Sem.run_bind, Sem.run_pure, Result.andThen_ok]
              exact run_storeVar (by omega) (by rw [hc.length]; omega) k1 k2 hc.ones
            · cases h
          · cases h
        · cases h
      | _ => simp [actSt, ho] at h
  | pm id ver idx off =>
    simp only [Cop.ids, List.map_cons, List.map_nil] at h
    simp only [VRel] at hx
    obtain ⟨_, ver', sz, xs, ho, hle, hx⟩ := hx
    simp only [actSt, ho] at h
    split at h
    · rename_i he
      have hx := hx he
      subst hx
      split at h
      · rename_i row ds hrow hcel
        have hcn : ds.length = n := by
          by_cases e : ds.length = n
          · exact e
          · rw [if_neg e] at h; cases h
        rw [if_pos hcn] at h
        split at h
        · rename_i row' hov
          simp only [Option.some.injEq] at h
          subst h
          obtain ⟨hle2, rfl⟩ := over_some hov
          have hd := cel_rel hcel hy
          have hul := hd.length
          obtain ⟨k1, k2, k4, k5⟩ := hH.ob id _ ho
          have hrl : row.length = sz := k1 row (List.mem_of_getElem? hrow)
          have hi : idx < xs.length := by
            rcases Nat.lt_or_ge idx xs.length with h | h
            · exact h
            · rw [List.getElem?_eq_none h] at hrow; cases hrow
          have hmul : (idx + 1) * sz ≤ xs.length * sz := Nat.mul_le_mul_right _ hi
          rw [Nat.add_mul] at hmul
          have hown : ∀ q, q < (g.at_ id).cnt → owns g obj id (g.at_ id).blk ((g.at_ id).lo + q) := fun q hq => by
            unfold owns; rw [ho]; exact ⟨rfl, by omega, by omega⟩
          have hcell : ∀ j, j < yv.cells.toList.length → (w.cell? (cellAt (g.at_ id).blk ((g.at_ id).lo + idx * sz + off + j))).isSome = true := fun j hj => by
            have := k4 (idx * sz + off + j) (by omega)
            rwa [show (g.at_ id).lo + (idx * sz + off + j) = (g.at_ id).lo + idx * sz + off + j by omega] at this
          have hfr : ∀ j, j < yv.cells.toList.length → w.frozen? (cellAt (g.at_ id).blk ((g.at_ id).lo + idx * sz + off + j)) = false := fun j hj => by
            have := hH.frz id _ _ (hown (idx * sz + off + j) (by omega)) (fun kvs => by rw [ho]; simp) ((g.at_ id).lo + (idx * sz + off + j))
            rwa [show (g.at_ id).lo + (idx * sz + off + j) = (g.at_ id).lo + idx * sz + off + j by omega] at this
          obtain ⟨e1, e2, e3, e4⟩ := setCells_os (g.at_ id).blk yv.cells.toList ((g.at_ id).lo + idx * sz + off) w
          refine ⟨⟨updP g.at_ id (g.at_ id), g.im⟩, w.setCells (g.at_ id).blk ((g.at_ id).lo + idx * sz + off) yv.cells.toList, ?_, ?_⟩
          · simp only [Instr.storeAt, Instr.sureAddr, Sem.run_bind, Sem.run_pure, Result.andThen_ok]
            exact run_storeVar (by omega) (by omega) hcell hfr hd.ones
          · have howns : ∀ b o, owns ⟨updP g.at_ id (g.at_ id), g.im⟩ (updO obj id (some (.arr ver' sz (xs.set idx (row.take off ++ ds ++ row.drop (off + ds.length)))))) id b o → owns g obj id b o := fun b o h => by
              unfold owns at *
              simp only [updO_same, updP_same] at h
              rw [ho]; exact h
            obtain ⟨h1, h2, h3⟩ := step1 (w' := w.setCells (g.at_ id).blk ((g.at_ id).lo + idx * sz + off) yv.cells.toList) hH id (.arr ver' sz (xs.set idx (row.take off ++ ds ++ row.drop (off + ds.length)))) (g.at_ id) g.im e1 e2 e3 (by omega)
              (fun b hb => (blockEvo_setCells (g.at_ id).blk b yv.cells.toList ((g.at_ id).lo + idx * sz + off) w).mono fun q ⟨m1, m2, m3⟩ => by
                subst m1
                have := hown (q - (g.at_ id).lo) (by omega)
                rwa [show (g.at_ id).lo + (q - (g.at_ id).lo) = q by omega] at this)
              (fun b o h => h) (fun b o h => .inl h)
              (fun b o h => ⟨.inl (howns b o h), hH.imm id b o (howns b o h)⟩)
              (fun b o h _ q => by rw [World.frozen?_setCells]; exact hH.frz id b o (howns b o h) (fun kvs => by rw [ho]; simp) q)
              (by
                intro j
                by_cases e : j = id
                · subst e; rw [ho]
                  exact ⟨_, _, updO_same _ _ _, Nat.le_refl _, fun _ => ⟨by simp, updP_same _ _ _⟩⟩
                · have := OEvo.refl g obj j
                  rw [updO_ne _ _ e, show (⟨updP g.at_ id (g.at_ id), g.im⟩ : Gh).at_ j = g.at_ j from updP_ne _ _ e]
                  exact this)
              (fun hv => by
                have hrow' : (row.take off ++ ds ++ row.drop (off + ds.length)).length = sz := by simp; omega
                refine ⟨fun r hr => ?_, by simpa using k2, fun q hq => ?_, fun i r q d hi' hq => ?_⟩
                · rcases List.mem_or_eq_of_mem_set hr with h | h
                  · exact k1 r h
                  · rw [h]; exact hrow'
                · exact (blockEvo_setCells (g.at_ id).blk (g.at_ id).blk yv.cells.toList ((g.at_ id).lo + idx * sz + off) w).isSome (k4 q hq)
                · by_cases hii : i = idx
                  · subst hii
                    rw [List.getElem?_set_self hi] at hi'
                    cases hi'
                    by_cases hin : off ≤ q ∧ q < off + ds.length
                    · obtain ⟨m, rfl⟩ : ∃ m, q = off + m := ⟨q - off, by omega⟩
                      rw [List.append_assoc, List.getElem?_append_right (by simp; omega), List.getElem?_append_left (by simp; omega)] at hq
                      have hto : (row.take off).length = off := by simp; omega
                      rw [hto, Nat.add_sub_cancel_left] at hq
                      obtain ⟨u, hu, hdu, h1u⟩ := hd.get hq
                      refine ⟨u, ?_, hv d u hdu, h1u⟩
                      have := holds_setCells (w := w) hcell m u hu
                      rwa [show (g.at_ id).lo + i * sz + off + m = (g.at_ id).lo + i * sz + (off + m) by omega] at this
                    · have hq' : row[q]? = some d := by
                        rcases Nat.lt_or_ge q off with h | h
                        · rw [List.append_assoc, List.getElem?_append_left (by simp; omega), List.getElem?_take, if_pos h] at hq; exact hq
                        · have hto : (row.take off ++ ds).length = off + ds.length := by simp; omega
                          rw [List.getElem?_append_right (by omega), hto, List.getElem?_drop, show off + ds.length + (q - (off + ds.length)) = q by omega] at hq; exact hq
                      obtain ⟨u, hu, hdu, h1u⟩ := k5 i row q d hrow hq'
                      refine ⟨u, ?_, hv d u hdu, h1u⟩
                      rw [World.cell?_setCells_out _ _ _ _ _ (fun _ _ => by show (g.at_ id).lo + i * sz + q < _ ∨ _ ≤ (g.at_ id).lo + i * sz + q; omega)]
                      exact hu
                  · rw [List.getElem?_set_ne (Ne.symm hii)] at hi'
                    obtain ⟨u, hu, hdu, h1u⟩ := k5 i r q d hi' hq
                    refine ⟨u, ?_, hv d u hdu, h1u⟩
                    have hr : r.length = sz := k1 r (List.mem_of_getElem? hi')
                    have hq' : q < r.length := by
                      rcases Nat.lt_or_ge q r.length with h | h
                      · exact h
                      · rw [List.getElem?_eq_none h] at hq; cases hq
                    rw [World.cell?_setCells_out _ _ _ _ _ (fun _ _ => by
                      show (g.at_ id).lo + i * sz + q < (g.at_ id).lo + idx * sz + off ∨ (g.at_ id).lo + idx * sz + off + yv.cells.toList.length ≤ (g.at_ id).lo + i * sz + q
                      rcases Nat.lt_or_gt_of_ne hii with h | h
                      · have : (i + 1) * sz ≤ idx * sz := Nat.mul_le_mul_right _ h
                        rw [Nat.add_mul] at this; omega
                      · have : (idx + 1) * sz ≤ i * sz := Nat.mul_le_mul_right _ h
                        rw [Nat.add_mul] at this; omega)]
                    exact hu)
            exact ⟨h1, h2, h3⟩
        · cases h
      · cases h
    · cases h
  | _ => simp [Cop.ids, actSt] at h

theorem ok_st {t : TypeId} {x y : Operand} {cop : Cop} (ho : o.op = .store t x y) (hn : P.cellsOf t ≠ 0) (hc : bi2 P tab none (some t) x y (.st (P.cellsOf t)) = some cop) : OkOp P tab o cop := by
  obtain ⟨a', b', ha, hb, rfl⟩ := bi2_rel hc
  intro nt g get obj a w hR fresh r hf h K Q hK
  have hx := compA_rel (w := w) ha hR.tmp
  have hy := compA_rel (w := w) hb hR.tmp
  simp only [Cop.args, List.map_cons, List.map_nil, act] at h
  split at h
  · rename_i os hl
    simp only [Option.some.injEq] at h
    subst h
    obtain ⟨g', w', e1, e2⟩ := st_sound hR.heap rfl hn hl hx hy
    refine wp_skip' (w' := w') ?_ (hK g' undef w' e2 undef_rel)
    simp only [execOp, ho, e1, Sem.run_bind, Result.andThen_ok, Sem.run_pure]
  · cases h

theorem ok_nilc {x : Operand} {cop : Cop} (ho : o.op = .nilCheck x) (hc : un1 P tab (some o.type) x .nilc = some cop) : OkOp P tab o cop := by
  obtain ⟨a', ha, rfl⟩ := un1_rel hc
  intro nt g get obj a w hR fresh r hf h K Q hK
  have hx := compA_rel (w := w) ha hR.tmp
  simp only [Cop.args, List.map_cons, List.map_nil, act] at h
  have key : ∀ v, VRel tab g obj w (evA get a') v → (∃ ad, v = .pointer (some ad)) ∨ (∃ f fs cs, v = .func (.func f) fs cs) → a.eval x = v → (execOp a.eval o).run P w = .ok (.value v) w := by
    rintro v _ (⟨ad, rfl⟩ | ⟨f, fs, cs, rfl⟩) e <;> simp [execOp, ho, e]
  split at h
  · rename_i id off heq
    injection heq with heq _
    simp only [Option.some.injEq] at h; subst h
    rw [heq] at hx
    have hx' := hx
    simp only [VRel] at hx'
    exact wp_value (key _ (by rw [heq]; exact hx) (.inl ⟨_, hx'.2⟩) rfl) (hK g _ _ (.refl hR.heap) hx)
  · rename_i id ver idx off heq
    injection heq with heq _
    simp only [Option.some.injEq] at h; subst h
    rw [heq] at hx
    have hx' := hx
    simp only [VRel] at hx'
    obtain ⟨⟨ad, e⟩, _⟩ := hx'
    exact wp_value (key _ (by rw [heq]; exact hx) (.inl ⟨_, e⟩) rfl) (hK g _ _ (.refl hR.heap) hx)
  · rename_i ds off heq
    injection heq with heq _
    simp only [Option.some.injEq] at h; subst h
    rw [heq] at hx
    have hx' := hx
    simp only [VRel, DRel] at hx'
    obtain ⟨b, q, e, _⟩ := hx'
    exact wp_value (key _ (by rw [heq]; exact hx) (.inl ⟨_, e⟩) rfl) (hK g _ _ (.refl hR.heap) hx)
  · rename_i k' a' c' heq
    injection heq with heq _
    simp only [Option.some.injEq] at h; subst h
    rw [heq] at hx
    have hx' := hx
    simp only [VRel, DRel] at hx'
    obtain ⟨fid, fs, cs, _, e, _⟩ := hx'
    exact wp_value (key _ (by rw [heq]; exact hx) (.inr ⟨_, _, _, e⟩) rfl) (hK g _ _ (.refl hR.heap) hx)
  · rename_i k' a' c' heq
    injection heq with heq _
    simp only [Option.some.injEq] at h; subst h
    rw [heq] at hx
    have hx' := hx
    simp only [VRel] at hx'
    obtain ⟨fid, fs, cs, _, e, _⟩ := hx'
    exact wp_value (key _ (by rw [heq]; exact hx) (.inr ⟨_, _, _, e⟩) rfl) (hK g _ _ (.refl hR.heap) hx)
  · cases h

/-! ### numbers and texts -/

theorem eqGuard_ok {op : BinOp} {t : TypeId} {x y : Operand} {u v : Value} (w : World) (h1 : u ≠ .nilIface) (h2 : ∀ c, u ≠ .agg c) : (eqGuard op t x y u v).run P w = .ok () w := by
  unfold eqGuard
  cases op <;> simp <;> (cases u <;> first | rfl | exact absurd rfl h1 | exact absurd rfl (h2 _))

def dVal : D → Value
  | .b x => .bool x
  | .i k n => .int k n
  | _ => undef

theorem run_binInt {op : BinOp} {k : IntKind} {x y : Int} {d : D} (hs : isShift op = false) (h : binInt op k x y = some d) {g : Gh} {obj : Nat → Option Obj} (w : World) (t : TypeId) :
    (Go.binOp op t (.int k x) (.int k y)).run P w = .ok (dVal d) w ∧ VRel tab g obj w (.d d) (dVal d) := by
  cases op <;> simp [binInt, isShift] at h hs <;> (first | (obtain ⟨h0, rfl⟩ := h) | subst h) <;>
    refine ⟨?_, by simp only [VRel, DRel, dVal]⟩ <;> simp [Go.binOp, Op.intArith, Op.intDiv, Op.intBits, Op.intCmp, dVal, *]

theorem run_shiftInt {op : BinOp} {k k' : IntKind} {x y : Int} {d : D} (hs : isShift op = true) (h : shiftInt op k x y = some d) {g : Gh} {obj : Nat → Option Obj} (w : World) (t : TypeId) :
    (Go.binOp op t (.int k x) (.int k' y)).run P w = .ok (dVal d) w ∧ VRel tab g obj w (.d d) (dVal d) := by
  unfold shiftInt at h
  split at h
  · cases h
  · rename_i hy
    cases op <;> simp [isShift] at h hs <;> subst h <;> refine ⟨?_, by simp only [VRel, DRel, dVal]⟩ <;> simp [Go.binOp, Op.shift, hy, dVal]

theorem bytesLess_eq : ∀ x y, Op.bytesLess x y = bytesLess x y
  | x, [] => by cases x <;> rfl
  | [], _ :: _ => rfl
  | a :: x, b :: y => by simp only [Op.bytesLess, bytesLess, bytesLess_eq x y]

theorem run_binStr {op : BinOp} {x y : List UInt8} {d : D} (h : binStr op x y = some d) {g : Gh} {obj : Nat → Option Obj} (w : World) (t : TypeId) {s s' : ByteArray} (hs : s.data.toList = x) (hs' : s'.data.toList = y) :
    ∃ v, (Go.binOp op t (.string s) (.string s')).run P w = .ok v w ∧ VRel tab g obj w (.d d) v := by
  have e1 : s.toList = x := by rw [ByteArray.toList_eq, hs]
  have e2 : s'.toList = y := by rw [ByteArray.toList_eq, hs']
  have l1 : s.size = x.length := by rw [← hs, Array.length_toList]; rfl
  have l2 : s'.size = y.length := by rw [← hs', Array.length_toList]; rfl
  cases op <;> simp [binStr] at h
  case add =>
    obtain ⟨h0, rfl⟩ := h
    refine ⟨.string (s ++ s'), ?_, ?_⟩
    · exact run_string_add_sum w s s' (by omega)
    · simp only [VRel, DRel]
      refine ⟨_, rfl, ?_⟩
      rw [← hs, ← hs']
      simp [ByteArray.data_append]
  all_goals
    refine ⟨dVal d, ?_, ?_⟩ <;> subst h
    · simp [Go.binOp, Op.stringOp, e1, e2, bytesLess_eq, dVal]
    · simp only [VRel, DRel, dVal]

theorem run_binOp {op : BinOp} {x y : V} {d : D} (h : binOp op x y = some d) {g : Gh} {obj : Nat → Option Obj} {w : World} {t : TypeId} (ht : isK P t = true) {xv yv : Value} (hx : VRel tab g obj w x xv) (hy : VRel tab g obj w y yv) (p q : Operand) :
    ∃ v, (eqGuard op t p q xv yv).run P w = .ok () w ∧ (Go.binOp op t xv yv).run P w = .ok v w ∧ VRel tab g obj w (.d d) v := by
  unfold binOp at h
  split at h
  · rename_i k a k' b
    simp only [VRel, DRel] at hx hy
    subst hx; subst hy
    split at h
    · rename_i hs
      obtain ⟨h1, h2⟩ := run_shiftInt (P := P) (tab := tab) (k' := k') (g := g) (obj := obj) hs h w t
      exact ⟨_, eqGuard_ok w (by simp) (by simp), h1, h2⟩
    · split at h
      · rename_i hs hk
        subst hk
        obtain ⟨h1, h2⟩ := run_binInt (P := P) (tab := tab) (g := g) (obj := obj) (by simpa using hs) h w t
        exact ⟨_, eqGuard_ok w (by simp) (by simp), h1, h2⟩
      · cases h
  · rename_i a b
    simp only [VRel, DRel] at hx hy
    obtain ⟨s, rfl, hs⟩ := hx
    obtain ⟨s', rfl, hs'⟩ := hy
    obtain ⟨v, h1, h2⟩ := run_binStr (P := P) (tab := tab) (g := g) (obj := obj) h w t hs hs'
    exact ⟨v, eqGuard_ok w (by simp) (by simp), h1, h2⟩
  · cases h

theorem ok_eqb {op : BinOp} {t u : TypeId} {x y : Operand} {cop : Cop} (ho : o.op = .binOp op t x y u) (ht : P.underlying t = some .bool) (hop : isEqOp op = true) (hc : bi2 P tab (some t) (some u) x y (.eqb (op == .neq)) = some cop) : OkOp P tab o cop := by
  obtain ⟨a', b', ha, hb, rfl⟩ := bi2_rel hc
  intro nt g get obj a w hR fresh r hf h K Q hK
  have hx := compA_rel (w := w) ha hR.tmp
  have hy := compA_rel (w := w) hb hR.tmp
  simp only [Cop.args, List.map_cons, List.map_nil, act] at h
  split at h
  · rename_i p q heq
    injection heq with q1 q2
    injection q2 with q2 _
    rw [q1] at hx
    rw [q2] at hy
    simp only [Option.some.injEq] at h
    subst h
    simp only [VRel, DRel] at hx hy
    have he0 : ∀ d, (Op.equalIn (d + 1) t (.bool p) (.bool q)).run P w = .ok (p == q) w := fun d => by simp [Op.equalIn, run_underlying ht]
    have he : (Op.equal t (.bool p) (.bool q)).run P w = .ok (p == q) w := he0 9999
    have hg := eqGuard_ok (P := P) (op := op) (t := t) (x := x) (y := y) (u := .bool p) (v := .bool q) w (by simp) (by simp)
    refine wp_value (v := .bool (if op == .neq then p != q else p == q)) (w' := w) ?_ (hK g _ _ (.refl hR.heap) (by simp only [VRel, DRel]))
    simp only [execOp, ho, hx, hy, hg, Sem.run_bind, Result.andThen_ok]
    cases op <;> simp [isEqOp] at hop <;> simp [Go.binOp, he] <;> (cases p <;> cases q <;> rfl)
  · cases h

theorem ok_bin {op : BinOp} {t u : TypeId} {x y : Operand} {cop : Cop} (ho : o.op = .binOp op t x y u) (ht : isK P t = true) (hc : bi2 P tab (some t) (some u) x y (.bin op) = some cop) : OkOp P tab o cop := by
  obtain ⟨a', b', ha, hb, rfl⟩ := bi2_rel hc
  intro nt g get obj a w hR fresh r hf h K Q hK
  have hx := compA_rel (w := w) ha hR.tmp
  have hy := compA_rel (w := w) hb hR.tmp
  simp only [Cop.args, List.map_cons, List.map_nil, act, optD] at h
  split at h
  · rename_i d hl
    simp only [Option.some.injEq] at h
    subst h
    obtain ⟨v, e1, e2, e3⟩ := run_binOp (P := P) hl ht hx hy x y
    refine wp_value ?_ (hK g _ _ (.refl hR.heap) e3)
    simp only [execOp, ho, e1, e2, Sem.run_bind, Result.andThen_ok, Sem.run_pure]
  · cases h

end
end Ab

/-
  Each operation of the interpreter is the model's: the others.
-/
namespace Ab
open Go
open Go.RowKit (Below)
set_option linter.unusedVariables false

section
variable {P : Program} {tab : Tab} {o : Oper}

theorem ok_un {op : UnOp} {t : TypeId} {x : Operand} {cop : Cop} (ho : o.op = .unOp op t x) (hc : un1 P tab (some t) x (.un op) = some cop) : OkOp P tab o cop := by
  obtain ⟨a', ha, rfl⟩ := un1_rel hc
  intro nt g get obj a w hR fresh r hf h K Q hK
  have hx := compA_rel (w := w) ha hR.tmp
  simp only [Cop.args, List.map_cons, List.map_nil, act, optD] at h
  split at h
  · rename_i d hd
    simp only [Option.some.injEq] at h
    subst h
    unfold unOp at hd
    split at hd
    · rename_i k n heq
      rw [heq] at hx
      simp only [VRel, DRel] at hx
      cases op <;> simp at hd
      subst hd
      refine wp_value (v := .int k (k.wrap (-n))) (w' := w) ?_ (hK g _ _ (.refl hR.heap) (by simp only [VRel, DRel]))
      simp only [execOp, ho, hx, Op.unary, Op.intArith, Sem.run_bind, Sem.run_pure, Result.andThen_ok, Int.zero_sub]
    · rename_i b heq
      rw [heq] at hx
      simp only [VRel, DRel] at hx
      cases op <;> simp at hd
      subst hd
      refine wp_value (v := .bool (!b)) (w' := w) ?_ (hK g _ _ (.refl hR.heap) (by simp only [VRel, DRel]))
      simp [execOp, ho, hx, Op.unary]
    · cases hd
  · cases h

theorem ok_nils {op : BinOp} {t e u : TypeId} {x y : Operand} {cop : Cop} (ho : o.op = .binOp op t x y u) (ht : P.underlying t = some (.slice e)) (hop : isEqOp op = true) (hy : isNilConst y = true) (hc : un1 P tab (some t) x (.nils (op == .neq)) = some cop) :
    OkOp P tab o cop := by
  obtain ⟨a', ha, rfl⟩ := un1_rel hc
  intro nt g get obj a w hR fresh r hf h K Q hK
  have hx := compA_rel (w := w) ha hR.tmp
  have hye : a.eval y = .slice none 0 0 := by
    unfold isNilConst at hy
    split at hy
    · rfl
    · cases hy
  simp only [Cop.args, List.map_cons, List.map_nil, act] at h
  split at h
  · rename_i b hb
    simp only [Option.some.injEq] at h
    subst h
    have key : ∃ A n c, a.eval x = .slice A n c ∧ A.isNone = b := by
      unfold nilSlice at hb
      split at hb
      · rename_i sz heq
        rw [heq] at hx
        simp only [VRel] at hx
        simp at hb; subst hb
        exact ⟨_, _, _, hx, rfl⟩
      · rename_i sz r rs heq
        rw [heq] at hx
        simp only [VRel, DRel] at hx
        obtain ⟨A, c, h1, _, _, h2⟩ := hx
        simp at hb; subst hb
        rcases h2 with h2 | ⟨b, o, rfl, _⟩
        · cases h2
        · exact ⟨_, _, _, h1, rfl⟩
      · rename_i i1 i2 sz r rs heq
        rw [heq] at hx
        simp only [VRel, DRel] at hx
        obtain ⟨⟨A, c, h1, _, _, h2⟩, _⟩ := hx
        simp at hb; subst hb
        rcases h2 with h2 | ⟨b, o, rfl, _⟩
        · cases h2
        · exact ⟨_, _, _, h1, rfl⟩
      · cases hb
    obtain ⟨A, n, c, hx', hA⟩ := key
    have he0 : ∀ d, (Op.equalIn (d + 1) t (.slice A n c) (.slice none 0 0)).run P w = .ok A.isNone w := fun d => by
      simp only [Op.equalIn, Sem.run_bind, run_underlying ht, Result.andThen_ok]
      cases A <;> rfl
    have he : (Op.equal t (.slice A n c) (.slice none 0 0)).run P w = .ok A.isNone w := he0 9999
    have hg := eqGuard_ok (P := P) (op := op) (t := t) (x := x) (y := y) (u := .slice A n c) (v := .slice none 0 0) w (by simp) (by simp)
    refine wp_value (v := .bool (if (op == .neq) = true then !b else b)) (w' := w) ?_ (hK g _ _ (.refl hR.heap) (by simp only [VRel, DRel]))
    simp only [execOp, ho, hx', hye, hg, Sem.run_bind, Result.andThen_ok]
    cases op <;> simp [isEqOp] at hop <;> simp [Go.binOp, he, hA] <;> rfl
  · cases h

theorem ok_conv {s t : TypeId} {k : IntKind} {x : Operand} {cop : Cop} (ho : o.op = .convert s t x) (ht : P.underlying t = some (.int k)) (hs : isIntT P s = true) (hc : un1 P tab (some s) x (.conv k) = some cop) : OkOp P tab o cop := by
  obtain ⟨a', ha, rfl⟩ := un1_rel hc
  obtain ⟨ks, hs⟩ : ∃ k, P.underlying s = some (.int k) := by
    unfold isIntT at hs
    split at hs
    · exact ⟨_, by assumption⟩
    · cases hs
  intro nt g get obj a w hR fresh r hf h K Q hK
  have hx := compA_rel (w := w) ha hR.tmp
  simp only [Cop.args, List.map_cons, List.map_nil, act] at h
  split at h
  · rename_i k' n heq
    injection heq with heq _
    simp only [Option.some.injEq] at h
    subst h
    rw [heq] at hx
    simp only [VRel, DRel] at hx
    refine wp_value (v := .int k (k.wrap n)) (w' := w) ?_ (hK g _ _ (.refl hR.heap) (by simp only [VRel, DRel]))
    simp [execOp, ho, hx, Go.convert, run_underlying hs, run_underlying ht, Conv.intToInt]
  · cases h

theorem ok_convStr {s t : TypeId} {x : Operand} {cop : Cop} (ho : o.op = .convert s t x) (ht : P.underlying t = some .string) (hs : isStrT P s = true) (hc : un1 P tab (some s) x .sid = some cop) : OkOp P tab o cop := by
  obtain ⟨a', ha, rfl⟩ := un1_rel hc
  have hs : P.underlying s = some .string := by
    unfold isStrT at hs
    split at hs
    · assumption
    · cases hs
  intro nt g get obj a w hR fresh r hf h K Q hK
  have hx := compA_rel (w := w) ha hR.tmp
  simp only [Cop.args, List.map_cons, List.map_nil, act] at h
  split at h
  · rename_i x heq
    injection heq with heq _
    simp only [Option.some.injEq] at h
    subst h
    rw [heq] at hx
    have hx0 := hx
    simp only [VRel, DRel] at hx
    obtain ⟨sv, hx, _⟩ := hx
    refine wp_value (v := .string sv) (w' := w) ?_ (hK g _ _ (.refl hR.heap) (by rw [hx] at hx0; exact hx0))
    simp [execOp, ho, hx, Go.convert, run_underlying hs, run_underlying ht]
  · cases h

theorem bytesR_rel {im : Nat → Nat → Prop} {w : World} : ∀ {xs : List (List D)} {b : List UInt8} {us : List Value}, bytesR xs = some b → DList tab im w xs.flatten us → ∃ ns : List Int, us = ns.map (Value.int .u8) ∧ b = ns.map (fun n => UInt8.ofNat n.toNat) ∧ ns.length = xs.length
  | [], b, us, h, hd => by
    simp only [bytesR, Option.some.injEq] at h
    subst h
    cases us with
    | nil => exact ⟨[], rfl, rfl, rfl⟩
    | cons u us => simp only [List.flatten_nil, DList] at hd
  | r :: rs, b, us, h, hd => by
    unfold bytesR at h
    split at h
    · rename_i heq; cases heq
    · rename_i n r' heq
      cases heq
      split at h
      · rename_i b' hb
        simp only [Option.some.injEq] at h
        subst h
        cases us with
        | nil => simp only [List.flatten_cons, List.cons_append, List.nil_append, DList] at hd
        | cons u us =>
          simp only [List.flatten_cons, List.cons_append, List.nil_append, DList, DRel] at hd
          obtain ⟨ns, h1, h2, h3⟩ := bytesR_rel hb hd.2
          exact ⟨n :: ns, by rw [hd.1, h1]; rfl, by rw [h2]; rfl, by simp [h3]⟩
      · cases h
    · cases h

theorem fold_push : ∀ (ns : List Int) (s : ByteArray), (ns.foldl (fun r n => r.push (UInt8.ofNat n.toNat)) s).data.toList = s.data.toList ++ ns.map (fun n => UInt8.ofNat n.toNat)
  | [], s => by simp
  | n :: ns, s => by
    rw [List.foldl_cons, fold_push ns]
    simp [ByteArray.push]

theorem ok_bts {s t : TypeId} {x : Operand} {cop : Cop} (ho : o.op = .convert s t x) (ht : P.underlying t = some .string) (hs : isBytesT P s = true) (hc : un1 P tab (some s) x .bts = some cop) : OkOp P tab o cop := by
  obtain ⟨a', ha, rfl⟩ := un1_rel hc
  obtain ⟨e, hs, he, hce⟩ : ∃ e, P.underlying s = some (.slice e) ∧ P.underlying e = some (.int .u8) ∧ P.cellsOf e = 1 := by
    unfold isBytesT at hs
    split at hs
    · rename_i e hu
      split at hs
      · rename_i he; exact ⟨e, hu, he, of_decide_eq_true hs⟩
      · cases hs
    · cases hs
  intro nt g get obj a w hR fresh r hf h K Q hK
  have hx := compA_rel (w := w) ha hR.tmp
  simp only [Cop.args, List.map_cons, List.map_nil, act] at h
  generalize evA get a' = xv at hx h hK
  split at h
  · rename_i b hb
    simp only [Option.some.injEq] at h
    subst h
    have fin : ∀ sv : ByteArray, sv.data.toList = b → (Conv.bytesToString (a.eval x)).run P w = .ok (.string sv) w → o.wp P a w K Q := fun sv h1 h2 => by
      refine wp_value (v := .string sv) (w' := w) ?_ (hK g _ _ (.refl hR.heap) (by simp only [VRel, DRel]; exact ⟨sv, rfl, h1⟩))
      have hcv : (Go.convert s t (a.eval x)).run P w = .ok (.string sv) w := by
        have hsl : ∃ A n c, a.eval x = .slice A n c := by
          unfold bytesV at hb
          split at hb
          · simp only [VRel, DRel] at hx
            obtain ⟨A, c, h, _⟩ := hx
            exact ⟨_, _, _, h⟩
          · simp only [VRel, DRel] at hx
            obtain ⟨⟨A, c, h, _⟩, _⟩ := hx
            exact ⟨_, _, _, h⟩
          · simp only [VRel] at hx
            exact ⟨_, _, _, hx⟩
          · cases hb
        obtain ⟨A, n, c, hsl⟩ := hsl
        rw [hsl] at h2 ⊢
        simp only [Go.convert, Sem.run_bind, run_underlying hs, run_underlying ht, run_underlying he, Result.andThen_ok]
        exact h2
      simp [execOp, ho, hcv]
    have rows : ∀ (xs : List (List D)), bytesR xs = some b → DRel tab g.im w (.l 1 xs) (a.eval x) → o.wp P a w K Q := fun xs hxs hd => by
      simp only [DRel] at hd
      obtain ⟨A, c, h1, h2, h3, h4⟩ := hd
      rcases h4 with h4 | ⟨bb, oo, rfl, h4⟩
      · subst h4
        simp only [bytesR, Option.some.injEq] at hxs
        subst hxs
        refine fin ByteArray.empty rfl ?_
        rw [h1]
        cases A with
        | none => simp [Conv.bytesToString]
        | some aa =>
          have := run_bytesToString (P := P) w aa 0 c [] (by simp [loadCells, loadCellsFrom])
          simpa using this
      · obtain ⟨us, k1, k2, k3⟩ := h4.cells.get
        obtain ⟨ns, e1, e2, e3⟩ := bytesR_rel hxs k1
        have hl := run_loadCells_list (P := P) w (cellAt bb oo) us (fun j v hj => by rw [add_at]; exact k3 j v hj)
        have hlen : us.length = xs.length := by rw [e1, List.length_map, e3]
        refine fin _ ?_ (by rw [h1]; exact run_bytesToString (P := P) w (cellAt bb oo) xs.length c ns (by rw [← hlen, ← e1]; exact hl))
        rw [fold_push, e2]; rfl
    unfold bytesV at hb
    split at hb
    · exact rows _ hb (by simpa only [VRel] using hx)
    · simp only [VRel] at hx
      exact rows _ hb hx.1
    · simp only [VRel] at hx
      simp only [Option.some.injEq] at hb
      subst hb
      refine fin ByteArray.empty rfl ?_
      rw [hx]
      simp [Conv.bytesToString]
    · cases hb
  · cases h


theorem ok_fa {t : TypeId} {fs : Array Field} {f : Nat} {fl : Field} {x : Operand} {cop : Cop} (ho : o.op = .fieldAddr t x f) (ht : P.underlying t = some (.struct fs)) (hf : fs[f]? = some fl) (hz : P.cellsOf fl.type ≠ 0) (hc : un1 P tab none x (.fa fl.offset) = some cop) :
    OkOp P tab o cop := by
  obtain ⟨a', ha, rfl⟩ := un1_rel hc
  intro nt g get obj a w hR fresh r hfr h K Q hK
  have hx := compA_rel (w := w) ha hR.tmp
  have run : ∀ b q, a.eval x = .pointer (some (cellAt b q)) → (execOp a.eval o).run P w = .ok (.value (.pointer (some (cellAt b (q + fl.offset))))) w := fun b q e => by
    simp [execOp, ho, e, Instr.fieldAt, run_underlying ht, hf, Instr.sureAddr, fieldPlace, run_size hz, hz, add_at]
  simp only [Cop.args, List.map_cons, List.map_nil, act] at h
  split at h
  · rename_i id off heq
    injection heq with heq _
    simp only [Option.some.injEq] at h; subst h
    rw [heq] at hx
    simp only [VRel] at hx
    refine wp_value (run _ _ hx.2) (hK g _ _ (.refl hR.heap) ?_)
    simp only [VRel]
    exact ⟨hx.1, by rw [Nat.add_assoc]⟩
  · rename_i id ver idx off heq
    injection heq with heq _
    simp only [Option.some.injEq] at h; subst h
    rw [heq] at hx
    simp only [VRel] at hx
    obtain ⟨⟨ad, e0⟩, ver', sz, xs, h1, h2, h3⟩ := hx
    by_cases e : ver = ver'
    · refine wp_value (run _ _ (h3 e)) (hK g _ _ (.refl hR.heap) ?_)
      simp only [VRel]
      exact ⟨⟨_, rfl⟩, ver', sz, xs, h1, h2, fun _ => by rw [Nat.add_assoc]⟩
    · have run2 : (execOp a.eval o).run P w = .ok (.value (.pointer (some (ad.add fl.offset)))) w := by
        simp [execOp, ho, e0, Instr.fieldAt, run_underlying ht, hf, Instr.sureAddr, fieldPlace, run_size hz, hz]
      refine wp_value run2 (hK g _ _ (.refl hR.heap) ?_)
      simp only [VRel]
      exact ⟨⟨_, rfl⟩, ver', sz, xs, h1, h2, fun e' => absurd e' e⟩
  · rename_i ds off heq
    injection heq with heq _
    simp only [Option.some.injEq] at h; subst h
    rw [heq] at hx
    simp only [VRel, DRel] at hx
    obtain ⟨b, q, e, hd⟩ := hx
    refine wp_value (run _ _ e) (hK g _ _ (.refl hR.heap) ?_)
    simp only [VRel, DRel]
    exact ⟨b, q, by rw [Nat.add_assoc], hd⟩
  · cases h

theorem run_part {e : TypeId} (h : okVar P e) {cs : Array Value} {off : Nat} {w : World} (hl : off + P.cellsOf e ≤ cs.size) :
    (part e cs off).run P w = .ok (varOf (isAggT P e) ((cs.toList.drop off).take (P.cellsOf e))) w := by
  obtain ⟨h1, h2, h3⟩ := h
  unfold part varOf
  simp only [Sem.run_bind, run_isAgg h3, Result.andThen_ok]
  cases ha : isAggT P e with
  | true =>
    simp only [if_true, Sem.run_bind, run_size h1, Result.andThen_ok, Sem.run_pure]
    congr 2
    apply Array.ext'
    simp [Array.toList_extract, List.extract_eq_take_drop]
  | false =>
    have h1 : P.cellsOf e = 1 := by simpa [ha] using h2
    have hlt : off < cs.size := by omega
    simp only [Bool.false_eq_true, if_false, Array.getElem?_eq_getElem hlt, h1]
    show Result.ok _ _ = _
    congr 1
    rw [← Array.getElem_toList, List.drop_eq_getElem_cons (by simpa using hlt)]
    rfl

theorem fl_rel {g : Gh} {obj : Nat → Option Obj} {w : World} {agg : Bool} {off n : Nat} {cs c : List V} {v : V} (h1 : takeV cs off n = some c) (h2 : asVar agg n c = some v) {us : List Value} (hc : CList tab g obj w cs us) :
    off + n ≤ us.length ∧ VRel tab g obj w v (varOf agg ((us.drop off).take n)) := by
  obtain ⟨h1, rfl⟩ := takeV_some h1
  have hl := hc.length
  exact ⟨by omega, (asVar_rel h2 ((hc.drop off).take n)).2⟩

theorem ok_fl {t : TypeId} {fs : Array Field} {f : Nat} {fl : Field} {x : Operand} {cop : Cop} (ho : o.op = .field t x f) (ht : P.underlying t = some (.struct fs)) (hf : fs[f]? = some fl) (hz : okVar P fl.type)
    (hc : un1 P tab (some t) x (.fl (isAggT P fl.type) fl.offset (P.cellsOf fl.type)) = some cop) : OkOp P tab o cop := by
  obtain ⟨a', ha, rfl⟩ := un1_rel hc
  intro nt g get obj a w hR fresh r hfr h K Q hK
  have hx := compA_rel (w := w) ha hR.tmp
  simp only [Cop.args, List.map_cons, List.map_nil, act] at h
  split at h
  · rename_i cs heq
    injection heq with heq _
    rw [heq] at hx
    simp only [VRel] at hx
    obtain ⟨us, e, hcs⟩ := hx
    split at h
    · rename_i c hc1
      simp only [optV] at h
      split at h
      · rename_i v hv
        simp only [Option.some.injEq] at h; subst h
        obtain ⟨k1, k2⟩ := fl_rel hc1 hv hcs
        refine wp_value ?_ (hK g _ _ (.refl hR.heap) k2)
        have := run_part (P := P) (w := w) hz (cs := us.toArray) (off := fl.offset) (by simpa using k1)
        simp [execOp, ho, e, Instr.field, run_underlying ht, hf, asAgg, this]
      · cases h
    · cases h
  · cases h

theorem ok_ext {x : Operand} {i : Nat} {cop : Cop} (ho : o.op = .extract x i) (hc : un1 P tab none x (.ext · i) = some cop) : OkOp P tab o cop := by
  obtain ⟨a', ha, rfl⟩ := un1_rel hc
  intro nt g get obj a w hR fresh r hfr h K Q hK
  have hx := compA_rel (w := w) ha hR.tmp
  simp only [Cop.args, List.map_cons, List.map_nil, act] at h
  split at h
  · rename_i ws heq
    injection heq with heq _
    rw [heq] at hx
    simp only [VRel] at hx
    obtain ⟨us, e, hus⟩ := hx
    split at h
    · rename_i v hv
      simp only [Option.some.injEq] at h; subst h
      obtain ⟨u, k1, k2⟩ := hus.get hv
      refine wp_value ?_ (hK g _ _ (.refl hR.heap) k2)
      simp [execOp, ho, e, Instr.extract, k1]
    · cases h
  · cases h

/-! ### indexes -/

theorem run_indexAt {t e : TypeId} (ht : P.underlying t = some (.slice e)) (hz : P.cellsOf e ≠ 0) {b q n c : Nat} {k : IntKind} {i : Int} (h0 : 0 ≤ i) (h1 : i < n) (w : World) :
    (Instr.indexAt t (.slice (some (cellAt b q)) n c) (.int k i)).run P w = .ok (.pointer (some (cellAt b (q + i.toNat * P.cellsOf e)))) w := by
  simp [Instr.indexAt, asIntOf, run_underlying ht, h0, h1, run_size hz, add_at]

theorem ok_ia {t e : TypeId} {x y : Operand} {cop : Cop} (ho : o.op = .indexAddr t x y) (ht : P.underlying t = some (.slice e)) (hz : P.cellsOf e ≠ 0) (hc : bi2 P tab (some t) none x y (.ia (P.cellsOf e)) = some cop) : OkOp P tab o cop := by
  obtain ⟨a', b', ha, hb, rfl⟩ := bi2_rel hc
  intro nt g get obj a w hR fresh r hf h K Q hK
  have hx := compA_rel (w := w) ha hR.tmp
  have hy := compA_rel (w := w) hb hR.tmp
  simp only [Cop.args, List.map_cons, List.map_nil, act, optV] at h
  split at h
  · rename_i v hv
    simp only [Option.some.injEq] at h
    subst h
    have key : ∀ (sz : Nat) (xs : List (List D)) (i : Int) (r : List D) (xv : Value), sz = P.cellsOf e → DRel tab g.im w (.l sz xs) xv → 0 ≤ i → xs[i.toNat]? = some r →
        ∃ A, xv = .slice (some A) xs.length (match xv with | .slice _ _ c => c | _ => 0) ∧ ∃ b q, A = cellAt b q ∧ i < xs.length ∧ DRel tab g.im w (.q r 0) (.pointer (some (cellAt b (q + i.toNat * P.cellsOf e)))) := by
      intro sz xs i r xv hs hd h0 hr
      simp only [DRel] at hd
      obtain ⟨A, c, rfl, h1, h2, h3⟩ := hd
      have hlt : i.toNat < xs.length := by
        rcases Nat.lt_or_ge i.toNat xs.length with h | h
        · exact h
        · rw [List.getElem?_eq_none h] at hr; cases hr
      rcases h3 with h3 | ⟨b, q, rfl, h3⟩
      · subst h3; simp at hlt
      · refine ⟨_, rfl, b, q, rfl, by omega, ?_⟩
        simp only [DRel]
        exact ⟨b, q + i.toNat * P.cellsOf e, rfl, by rw [← hs]; exact h3.get h2 hr⟩
    unfold actIa at hv
    split at hv
    · rename_i sz xs k i heq hos
      injection heq with q1 q2
      injection q2 with q2 _
      rw [q1] at hx
      rw [q2] at hy
      split at hv
      · rename_i hcond
        split at hv
        · rename_i rr hrr
          simp only [Option.some.injEq] at hv; subst hv
          simp only [VRel] at hx
          simp only [VRel, DRel] at hy
          obtain ⟨A, e1, b, q, e2, e3, e4⟩ := key sz xs i rr _ hcond.1 hx hcond.2 hrr
          refine wp_value ?_ (hK g _ _ (.refl hR.heap) (by simp only [VRel]; exact e4))
          simp only [execOp, ho, hy]
          rw [e1, e2]
          simp only [Sem.run_bind, run_indexAt ht hz hcond.2 e3 w, Result.andThen_ok, Sem.run_pure]
        · cases hv
      · cases hv
    · rename_i i1 i2 sz xs k i heq hos
      injection heq with q1 q2
      injection q2 with q2 _
      rw [q1] at hx
      rw [q2] at hy
      split at hv
      · rename_i hcond
        split at hv
        · rename_i rr hrr
          simp only [Option.some.injEq] at hv; subst hv
          simp only [VRel] at hx
          simp only [VRel, DRel] at hy
          obtain ⟨A, e1, b, q, e2, e3, e4⟩ := key sz xs i rr _ hcond.1 hx.1 hcond.2 hrr
          refine wp_value ?_ (hK g _ _ (.refl hR.heap) (by simp only [VRel]; exact e4))
          simp only [execOp, ho, hy]
          rw [e1, e2]
          simp only [Sem.run_bind, run_indexAt ht hz hcond.2 e3 w, Result.andThen_ok, Sem.run_pure]
        · cases hv
      · cases hv
    · rename_i id ver off len k i ver' sz' xs heq hos
      injection heq with q1 q2
      injection q2 with q2 _
      rw [q1] at hx
      rw [q2] at hy
      split at hv
      · rename_i hcond
        simp only [Option.some.injEq] at hv; subst hv
        rw [q1, q2] at hos
        simp only [Cop.ids, List.map_cons, List.map_nil, List.cons.injEq, and_true] at hos
        simp only [VRel] at hx
        have hx0 := hx
        simp only [VRel, DRel] at hy
        obtain ⟨_, ver2, sz2, xs2, h1, h2, h3⟩ := hx
        rw [hos] at h1
        cases h1
        obtain ⟨h4, h5⟩ := h3 hcond.1
        obtain ⟨A5, c, h5, h6⟩ := h5
        obtain ⟨⟨A7, c7, h7, hlc⟩, _⟩ := hx0
        rw [h5] at h7
        cases h7
        rcases h6 with h6 | ⟨rfl, _⟩
        · omega
        · refine wp_value (v := .pointer (some (cellAt (g.at_ id).blk ((g.at_ id).lo + off * sz' + i.toNat * P.cellsOf e)))) (w' := w) ?_ (hK g _ _ (.refl hR.heap) ?_)
          · simp only [execOp, ho, hy, h5]
            simp only [Sem.run_bind, run_indexAt ht hz hcond.2.2.1 hcond.2.2.2 w, Result.andThen_ok, Sem.run_pure]
          · simp only [VRel]
            refine ⟨⟨_, rfl⟩, ver', sz', xs, hos, by omega, fun _ => ?_⟩
            rw [show (off + i.toNat) * sz' = off * sz' + i.toNat * P.cellsOf e by rw [Nat.add_mul, hcond.2.1], Nat.add_zero, Nat.add_assoc]
      · cases hv
    · cases hv
  · cases h

theorem ok_iaa {t e : TypeId} {n : Nat} {x y : Operand} {cop : Cop} (ho : o.op = .indexAddr t x y) (ht : P.underlying t = some (.array n e)) (hz : P.cellsOf e ≠ 0) (hc : bi2 P tab none none x y (.iaa n (P.cellsOf e)) = some cop) : OkOp P tab o cop := by
  obtain ⟨a', b', ha, hb, rfl⟩ := bi2_rel hc
  intro nt g get obj a w hR fresh r hf h K Q hK
  have hx := compA_rel (w := w) ha hR.tmp
  have hy := compA_rel (w := w) hb hR.tmp
  have run : ∀ b q k i, a.eval x = .pointer (some (cellAt b q)) → a.eval y = .int k i → 0 ≤ i → i < n → (execOp a.eval o).run P w = .ok (.value (.pointer (some (cellAt b (q + i.toNat * P.cellsOf e))))) w := fun b q k i e1 e2 h0 h1 => by
    simp [execOp, ho, e1, e2, Instr.indexAt, asIntOf, Instr.sureAddr, run_underlying ht, h0, h1, run_size hz, add_at]
  simp only [Cop.args, List.map_cons, List.map_nil, act] at h
  split at h
  · rename_i id off k i heq
    injection heq with q1 q2
    injection q2 with q2 _
    rw [q1] at hx
    rw [q2] at hy
    split at h
    · rename_i hcond
      simp only [Option.some.injEq] at h; subst h
      simp only [VRel] at hx
      simp only [VRel, DRel] at hy
      refine wp_value (run _ _ _ _ hx.2 hy hcond.1 hcond.2) (hK g _ _ (.refl hR.heap) ?_)
      simp only [VRel]
      exact ⟨hx.1, by rw [Nat.add_assoc]⟩
    · cases h
  · rename_i ds off k i heq
    injection heq with q1 q2
    injection q2 with q2 _
    rw [q1] at hx
    rw [q2] at hy
    split at h
    · rename_i hcond
      simp only [Option.some.injEq] at h; subst h
      simp only [VRel, DRel] at hx hy
      obtain ⟨b, q, e1, hd⟩ := hx
      refine wp_value (run _ _ _ _ e1 hy hcond.1 hcond.2) (hK g _ _ (.refl hR.heap) ?_)
      simp only [VRel, DRel]
      exact ⟨b, q, by rw [Nat.add_assoc], hd⟩
    · cases h
  · cases h

theorem ok_ixs {t : TypeId} {x y : Operand} {cop : Cop} (ho : o.op = .index t x y) (ht : P.underlying t = some .string) (hc : bi2 P tab (some t) none x y .ixs = some cop) : OkOp P tab o cop := by
  obtain ⟨a', b', ha, hb, rfl⟩ := bi2_rel hc
  intro nt g get obj a w hR fresh r hf h K Q hK
  have hx := compA_rel (w := w) ha hR.tmp
  have hy := compA_rel (w := w) hb hR.tmp
  simp only [Cop.args, List.map_cons, List.map_nil, act] at h
  split at h
  · rename_i s k i heq
    injection heq with q1 q2
    injection q2 with q2 _
    rw [q1] at hx
    rw [q2] at hy
    simp only [VRel, DRel] at hx hy
    obtain ⟨sv, e1, e2⟩ := hx
    split at h
    · rename_i h0
      split at h
      · rename_i c hcc
        simp only [Option.some.injEq] at h; subst h
        have hget : sv[i.toNat]? = some c := by
          rw [← e2] at hcc
          have : sv.data[i.toNat]? = some c := by simpa using hcc
          have hlt : i.toNat < sv.size := (Array.getElem?_eq_some_iff.1 this).1
          rw [getElem?_pos sv i.toNat hlt]
          have := (Array.getElem?_eq_some_iff.1 this).2
          simpa [ByteArray.getElem_eq_getElem_data] using this
        refine wp_value (v := .int .u8 c.toNat) (w' := w) ?_ (hK g _ _ (.refl hR.heap) (by simp only [VRel, DRel]))
        simp [execOp, ho, e1, hy, Instr.index, asIntOf, run_underlying ht, h0, hget]
      · cases h
    · cases h
  · cases h

theorem ok_ixa {t e : TypeId} {n : Nat} {x y : Operand} {cop : Cop} (ho : o.op = .index t x y) (ht : P.underlying t = some (.array n e)) (hz : okVar P e) (hc : bi2 P tab (some t) none x y (.ixa (isAggT P e) n (P.cellsOf e)) = some cop) : OkOp P tab o cop := by
  obtain ⟨a', b', ha, hb, rfl⟩ := bi2_rel hc
  intro nt g get obj a w hR fresh r hf h K Q hK
  have hx := compA_rel (w := w) ha hR.tmp
  have hy := compA_rel (w := w) hb hR.tmp
  simp only [Cop.args, List.map_cons, List.map_nil, act] at h
  split at h
  · rename_i cs k i heq
    injection heq with q1 q2
    injection q2 with q2 _
    rw [q1] at hx
    rw [q2] at hy
    simp only [VRel] at hx
    simp only [VRel, DRel] at hy
    obtain ⟨us, e1, hus⟩ := hx
    split at h
    · rename_i hcond
      split at h
      · rename_i c hcc
        simp only [optV] at h
        split at h
        · rename_i v hv
          simp only [Option.some.injEq] at h; subst h
          obtain ⟨k1, k2⟩ := fl_rel hcc hv hus
          refine wp_value ?_ (hK g _ _ (.refl hR.heap) k2)
          have := run_part (P := P) (w := w) hz (cs := us.toArray) (off := i.toNat * P.cellsOf e) (by simpa using k1)
          simp [execOp, ho, e1, hy, Instr.index, asIntOf, run_underlying ht, hcond, run_size hz.1, this]
        · cases h
      · cases h
    · cases h
  · cases h

end
end Ab

/-
  Each operation of the interpreter is the model's: cuts, lengths, makes, appends, literals, calls.
-/
namespace Ab
open Go
open Go.RowKit (Below)
set_option linter.unusedVariables false

section
variable {P : Program} {tab : Tab} {o : Oper}

theorem ok_len0 {t e : TypeId} {x : Operand} {cop : Cop} (ho : o.op = .call { callee := .builtin .len, args := #[x], argTypes := #[t] }) (ht : P.underlying t = some (.slice e)) (hc : un1 P tab (some t) x (.len 0) = some cop) : OkOp P tab o cop := by
  obtain ⟨a', ha, rfl⟩ := un1_rel hc
  intro nt g get obj a w hR fresh r hf h K Q hK
  have hx := compA_rel (w := w) ha hR.tmp
  have run : ∀ A n c, a.eval x = .slice A n c → (execOp a.eval o).run P w = .ok (.value (.int .i64 n)) w := fun A n c e1 => by
    simp [execOp, ho, resolve, invoke, builtin, e1, Builtin.len_, run_underlying ht, goInt]
  simp only [Cop.args, List.map_cons, List.map_nil] at h hK
  generalize evA get a' = xv at h hx hK
  cases xv with
  | d x =>
    cases x with
    | l sz xs =>
      simp only [act, Option.some.injEq] at h
      subst h
      simp only [VRel, DRel] at hx
      obtain ⟨A, c, e1, _⟩ := hx
      exact wp_value (run _ _ _ e1) (hK g _ _ (.refl hR.heap) (by simp only [VRel, DRel]))
    | _ => simp [act] at h
  | own id ver sz xs =>
    simp only [act, Option.some.injEq] at h
    subst h
    simp only [VRel, DRel] at hx
    obtain ⟨⟨A, c, e1, _⟩, _⟩ := hx
    exact wp_value (run _ _ _ e1) (hK g _ _ (.refl hR.heap) (by simp only [VRel, DRel]))
  | nil n =>
    simp only [act, Option.some.injEq] at h
    subst h
    simp only [VRel] at hx
    exact wp_value (run _ _ _ hx) (hK g _ _ (.refl hR.heap) (by simp only [VRel, DRel]; rfl))
  | arr id ver off n =>
    simp only [act, Option.some.injEq] at h
    subst h
    simp only [VRel] at hx
    obtain ⟨⟨A, c, e1, _⟩, _⟩ := hx
    exact wp_value (run _ _ _ e1) (hK g _ _ (.refl hR.heap) (by simp only [VRel, DRel]))
  | _ => simp [act] at h

theorem ok_len1 {t : TypeId} {x : Operand} {cop : Cop} (ho : o.op = .call { callee := .builtin .len, args := #[x], argTypes := #[t] }) (ht : P.underlying t = some .string) (hc : un1 P tab (some t) x (.len 1) = some cop) : OkOp P tab o cop := by
  obtain ⟨a', ha, rfl⟩ := un1_rel hc
  intro nt g get obj a w hR fresh r hf h K Q hK
  have hx := compA_rel (w := w) ha hR.tmp
  simp only [Cop.args, List.map_cons, List.map_nil] at h hK
  generalize evA get a' = xv at h hx hK
  cases xv with
  | d x =>
    cases x with
    | s l =>
      simp only [act, Option.some.injEq] at h
      subst h
      simp only [VRel, DRel] at hx
      obtain ⟨s, e1, e2⟩ := hx
      have hl : s.size = l.length := by rw [← e2, Array.length_toList]; rfl
      refine wp_value (v := .int .i64 s.size) (w' := w) ?_ (hK g _ _ (.refl hR.heap) (by simp only [VRel, DRel, hl]))
      simp [execOp, ho, resolve, invoke, builtin, e1, Builtin.len_, run_underlying ht, goInt]
    | _ => simp [act] at h
  | _ => simp [act] at h

theorem ok_len2 {t k e : TypeId} {x : Operand} {cop : Cop} (ho : o.op = .call { callee := .builtin .len, args := #[x], argTypes := #[t] }) (ht : P.underlying t = some (.map k e)) (hc : un1 P tab (some t) x (.len 2) = some cop) : OkOp P tab o cop := by
  obtain ⟨a', ha, rfl⟩ := un1_rel hc
  intro nt g get obj a w hR fresh r hf h K Q hK
  have hx := compA_rel (w := w) ha hR.tmp
  simp only [Cop.args, List.map_cons, List.map_nil] at h hK
  generalize evA get a' = xv at h hx hK
  cases xv with
  | map id =>
    simp only [Cop.ids, List.map_cons, List.map_nil] at h
    simp only [VRel] at hx
    obtain ⟨⟨kvs, h1⟩, h2⟩ := hx
    rw [h1] at h
    simp only [act, Option.some.injEq] at h
    subst h
    obtain ⟨es, clock, k1, k2⟩ := hR.heap.ob id _ h1
    have hl : es.size = kvs.length := by
      have : ∀ (kvs : List (List D × V)) (es : List MapEntry), EList tab g obj w kvs es → es.length = kvs.length := by
        intro kvs
        induction kvs with
        | nil => intro es h; cases es with | nil => rfl | cons => simp only [EList] at h
        | cons p kvs ih => intro es h; cases es with | nil => simp only [EList] at h | cons e es => simp only [EList] at h; simp [ih es h.2.2]
      simpa using this kvs es.toList k2
    refine wp_value (v := .int .i64 es.size) (w' := w) ?_ (hK g _ _ (.refl hR.heap) (by simp only [VRel, DRel, hl]))
    have hg : (getObj (g.at_ id).blk).run P w = .ok (.map es clock) w := by simp [getObj, Sem.run, k1]
    simp [execOp, ho, resolve, invoke, builtin, h2, Builtin.len_, run_underlying ht, goInt, hg]
  | _ => simp [act, Cop.ids] at h

/-! ### cuts -/

theorem compOpt_rel {t : Option TypeId} {x : Option Operand} {y : Option A} (h : compOpt P tab t x = some y) {g : Gh} {obj : Nat → Option Obj} {w : World} {get : Nat → V} {act : Act} (hT : ∀ t, VRel tab g obj w (get t) (act.tmps.getD t undef)) :
    match y, x with
    | none, none => True
    | some y, some x => VRel tab g obj w (evA get y) (act.eval x)
    | _, _ => False := by
  cases x with
  | none => simp only [compOpt, Option.some.injEq] at h; subst h; trivial
  | some x =>
    simp only [compOpt] at h
    split at h
    · rename_i a ha
      cases h
      exact compA_rel ha hT
    · cases h

theorem run_bounds {g : Gh} {obj : Nat → Option Obj} {w : World} {lo hi : Option V} {lv hv : Option Value} {n cap l h : Nat} (hlo : match lo, lv with | none, none => True | some x, some v => VRel tab g obj w x v | _, _ => False)
    (hhi : match hi, hv with | none, none => True | some x, some v => VRel tab g obj w x v | _, _ => False) (hb : bounds lo hi n = some (l, h)) (hc : n ≤ cap) (isSlice : Bool) :
    l ≤ h ∧ h ≤ n ∧ (Instr.sliceBounds isSlice n cap lv hv none).run P w = .ok (l, h, cap) w := by
  have hint : ∀ (x : V) (v : Value) (i : Int), (match some x with | none => some (n : Int) | some (.d (.i _ x)) => some x | _ => none) = some i → VRel tab g obj w x v → ∃ k, v = .int k i := by
    intro x v i h hx
    split at h
    · rename_i h0; cases h0
    · rename_i k j h0
      cases h0
      simp only [Option.some.injEq] at h
      subst h
      simp only [VRel, DRel] at hx
      exact ⟨k, hx⟩
    · cases h
  unfold bounds at hb
  simp only at hb
  cases hi with
  | none =>
    cases hv with
    | some _ => exact hhi.elim
    | none =>
      cases lo with
      | none =>
        cases lv with
        | some _ => exact hlo.elim
        | none =>
          simp at hb
          obtain ⟨rfl, rfl⟩ := hb
          exact ⟨Nat.zero_le _, Nat.le_refl _, by simp [Instr.sliceBounds]⟩
      | some lx =>
        cases lv with
        | none => exact hlo.elim
        | some v =>
          cases lx with
          | d x =>
            cases x with
            | i k i =>
              simp only [VRel, DRel] at hlo
              subst hlo
              simp only at hb
              split at hb
              · rename_i hcond
                simp only [Option.some.injEq, Prod.mk.injEq] at hb
                obtain ⟨rfl, rfl⟩ := hb
                refine ⟨by omega, by omega, ?_⟩
                have h1 : 0 ≤ i ∧ i ≤ (n : Int) := ⟨hcond.1, hcond.2.1⟩
                simp [Instr.sliceBounds, Instr.sliceBound, asIntOf, h1]
              · cases hb
            | _ => simp at hb
          | _ => simp at hb
  | some hx =>
    cases hv with
    | none => exact hhi.elim
    | some v' =>
      cases hx with
      | d x =>
        cases x with
        | i k' j =>
          simp only [VRel, DRel] at hhi
          subst hhi
          cases lo with
          | none =>
            cases lv with
            | some _ => exact hlo.elim
            | none =>
              simp only at hb
              split at hb
              · rename_i hcond
                simp only [Option.some.injEq, Prod.mk.injEq] at hb
                obtain ⟨rfl, rfl⟩ := hb
                refine ⟨by omega, by omega, ?_⟩
                have h1 : 0 ≤ j ∧ j ≤ (cap : Int) := ⟨by omega, by omega⟩
                simp [Instr.sliceBounds, Instr.sliceBound, asIntOf, h1]
              · cases hb
          | some lx =>
            cases lv with
            | none => exact hlo.elim
            | some v =>
              cases lx with
              | d x =>
                cases x with
                | i k i =>
                  simp only [VRel, DRel] at hlo
                  subst hlo
                  simp only at hb
                  split at hb
                  · rename_i hcond
                    simp only [Option.some.injEq, Prod.mk.injEq] at hb
                    obtain ⟨rfl, rfl⟩ := hb
                    refine ⟨by omega, by omega, ?_⟩
                    have h1 : 0 ≤ j ∧ j ≤ (cap : Int) := ⟨by omega, by omega⟩
                    have h2 : 0 ≤ i ∧ i ≤ max j 0 := ⟨by omega, by omega⟩
                    simp [Instr.sliceBounds, Instr.sliceBound, asIntOf, h1, h2]
                  · cases hb
                | _ => simp at hb
              | _ => simp at hb
        | _ => simp at hb
      | _ => simp at hb

theorem slc_sound {g : Gh} {obj : Nat → Option Obj} {w : World} {t e : TypeId} (ht : P.underlying t = some (.slice e)) (hz : P.cellsOf e ≠ 0) {x v : V} {lo hi : Option V} {lv hv : Option Value} {xv : Value} (hx : VRel tab g obj w x xv)
    (hlo : match lo, lv with | none, none => True | some x, some v => VRel tab g obj w x v | _, _ => False) (hhi : match hi, hv with | none, none => True | some x, some v => VRel tab g obj w x v | _, _ => False)
    (h : actSlc (P.cellsOf e) x lo hi = some v) : ∃ rv, (Instr.sliceAt t xv lv hv none).run P w = .ok rv w ∧ VRel tab g obj w v rv := by
  have run : ∀ (A : Option Addr) (n c l h : Nat), bounds lo hi n = some (l, h) → n ≤ c → l ≤ h ∧ h ≤ n ∧ (Instr.sliceAt t (.slice A n c) lv hv none).run P w = .ok (.slice (if c = l then A else A.map (·.add (l * P.cellsOf e))) (h - l) (c - l)) w := by
    intro A n c l h hb hc
    obtain ⟨h1, h2, h3⟩ := run_bounds (P := P) hlo hhi hb hc true
    refine ⟨h1, h2, ?_⟩
    simp [Instr.sliceAt, Instr.slice, run_underlying ht, h3, run_size hz]
  have rows : ∀ (sz : Nat) (xs : List (List D)) (A : Option Addr) (c l h : Nat), sz = P.cellsOf e → xs.length ≤ c → (∀ r ∈ xs, r.length = sz) → (xs = [] ∨ ∃ b o, A = some (cellAt b o) ∧ DRows tab g.im w b o xs) → l ≤ h → h ≤ xs.length →
      DRel tab g.im w (.l sz ((xs.take h).drop l)) (.slice (if c = l then A else A.map (·.add (l * P.cellsOf e))) (h - l) (c - l)) := by
    intro sz xs A c l h hs hc hxs hX hlh hhn
    simp only [DRel]
    have hlen : ((xs.take h).drop l).length = h - l := by simp; omega
    refine ⟨_, c - l, by rw [hlen], by omega, fun r hr => hxs r (List.mem_of_mem_take (List.mem_of_mem_drop hr)), ?_⟩
    rcases hX with hX | ⟨b, o, rfl, hX⟩
    · subst hX; exact .inl (by simp)
    · by_cases hcl : c = l
      · refine .inl (List.length_eq_zero_iff.1 ?_); omega
      · refine .inr ⟨b, o + l * sz, ?_, (hX.take h).drop l (fun r hr => hxs r (List.mem_of_mem_take hr))⟩
        rw [if_neg hcl, hs]
        simp [add_at]
  cases x with
  | d x =>
    cases x with
    | l sz xs =>
      simp only [actSlc] at h
      split at h
      · rename_i hs
        split at h
        · rename_i l hh hb
          simp only [Option.some.injEq] at h
          subst h
          simp only [VRel, DRel] at hx
          obtain ⟨A, c, rfl, h1, h2, h3⟩ := hx
          obtain ⟨k1, k2, k3⟩ := run A _ c l hh hb h1
          refine ⟨_, k3, ?_⟩
          subst hs
          simp only [VRel]
          exact rows _ xs A c l hh rfl h1 h2 h3 k1 k2
        · cases h
      · cases h
    | _ => simp [actSlc] at h
  | own id ver sz xs =>
    simp only [actSlc] at h
    split at h
    · rename_i hs
      split at h
      · rename_i l hh hb
        simp only [VRel, DRel] at hx
        obtain ⟨⟨A, c, rfl, h1, h2, h3⟩, ver', sz', k4, k5, k6⟩ := hx
        obtain ⟨k1, k2, k3⟩ := run A _ c l hh hb h1
        have hr := rows sz xs A c l hh hs h1 h2 h3 k1 k2
        subst hs
        split at h
        · rename_i he
          simp only [Option.some.injEq] at h
          subst h
          refine ⟨_, k3, ?_⟩
          subst he
          rw [List.take_length] at hr
          simp only [VRel]
          refine ⟨hr, ver', sz', k4, k5, fun he => ?_⟩
          obtain ⟨m1, A', c', m2, m3⟩ := k6 he
          injection m2 with q1 q2 q3
          subst q1; subst q3
          refine ⟨m1, _, c - l, by rw [List.length_drop], ?_⟩
          rcases m3 with m3 | ⟨b, o, rfl, m4⟩
          · left; simp; omega
          · by_cases hcl : c = l
            · left; simp; omega
            · right
              refine ⟨b, o + l * P.cellsOf e, by simp [hcl, add_at], ?_⟩
              rw [m4]
              have hmul : xs.length * P.cellsOf e = l * P.cellsOf e + (xs.length - l) * P.cellsOf e := by rw [← Nat.add_mul]; congr 1; omega
              simp only [List.length_drop, Place.mk.injEq, true_and]
              refine ⟨by omega, ?_⟩
              congr 1
              omega
        · simp only [Option.some.injEq] at h
          subst h
          refine ⟨_, k3, ?_⟩
          simp only [VRel]
          exact hr
      · cases h
    · cases h
  | nil sz' =>
    simp only [actSlc] at h
    split at h
    · rename_i p hb
      simp only [Option.some.injEq] at h
      subst h
      simp only [VRel] at hx
      subst hx
      obtain ⟨k1, k2, k3⟩ := run none 0 0 p.1 p.2 hb (Nat.le_refl _)
      have e1 : p.1 = 0 := by omega
      have e2 : p.2 = 0 := by omega
      rw [e1, e2] at k3
      exact ⟨_, k3, by simp only [VRel]; rfl⟩
    · cases h
  | _ => simp [actSlc] at h
end
end Ab

/-
  Each operation of the interpreter is the model's: cuts, makes, appends, literals of functions, calls.
-/
namespace Ab
open Go
open Go.RowKit (Below)
set_option linter.unusedVariables false

section
variable {P : Program} {tab : Tab} {o : Oper}

theorem ok_slc {t e : TypeId} {x : Operand} {lo hi : Option Operand} {a : A} {l h' : Option A} (ho : o.op = .slice t x lo hi none) (ht : P.underlying t = some (.slice e)) (hz : P.cellsOf e ≠ 0)
    (ha : compA P tab (some t) x = some a) (hl : compOpt P tab none lo = some l) (hh : compOpt P tab none hi = some h') : OkOp P tab o (.slc (P.cellsOf e) a l h') := by
  intro nt g get obj b w hR fresh r hf h K Q hK
  have hx := compA_rel (w := w) ha hR.tmp
  have e1 := compOpt_rel (w := w) hl hR.tmp
  have e2 := compOpt_rel (w := w) hh hR.tmp
  have fin : ∀ (lv hv : Option V), (match lv, lo.map b.eval with | none, none => True | some x, some v => VRel tab g obj w x v | _, _ => False) → (match hv, hi.map b.eval with | none, none => True | some x, some v => VRel tab g obj w x v | _, _ => False) →
      ∀ v, actSlc (P.cellsOf e) (evA get a) lv hv = some v → ∃ rv, (execOp b.eval o).run P w = .ok (.value rv) w ∧ VRel tab g obj w v rv := by
    intro lv hv k1 k2 v k3
    obtain ⟨rv, m1, m2⟩ := slc_sound (P := P) ht hz hx k1 k2 k3
    exact ⟨rv, by simp [execOp, ho, m1], m2⟩
  have done : ∀ v, r = ⟨v, ((Cop.ids (.slc (P.cellsOf e) a l h') ((Cop.args (.slc (P.cellsOf e) a l h')).map (evA get))).map obj), none⟩ → (∃ rv, (execOp b.eval o).run P w = .ok (.value rv) w ∧ VRel tab g obj w v rv) → o.wp P b w K Q := by
    intro v er ⟨rv, m1, m2⟩
    subst er
    exact wp_value m1 (hK g rv w (.refl hR.heap) m2)
  cases l with
  | none =>
    cases lo with
    | some _ => exact e1.elim
    | none =>
      cases h' with
      | none =>
        cases hi with
        | some _ => exact e2.elim
        | none =>
          simp only [Cop.args, Option.toList_none, List.append_nil, List.map_cons, List.map_nil, act, optV] at h
          split at h
          · rename_i v hv
            simp only [Option.some.injEq] at h
            exact done v h.symm (fin none none trivial trivial v hv)
          · cases h
      | some y =>
        cases hi with
        | none => exact e2.elim
        | some yo =>
          simp only [Cop.args, Option.toList_none, Option.toList_some, List.append_nil, List.cons_append, List.nil_append, List.map_cons, List.map_nil, act, optV] at h
          split at h
          · rename_i v hv
            simp only [Option.some.injEq] at h
            exact done v h.symm (fin none (some (evA get y)) trivial e2 v hv)
          · cases h
  | some z =>
    cases lo with
    | none => exact e1.elim
    | some zo =>
      cases h' with
      | none =>
        cases hi with
        | some _ => exact e2.elim
        | none =>
          simp only [Cop.args, Option.toList_none, Option.toList_some, List.append_nil, List.cons_append, List.nil_append, List.map_cons, List.map_nil, act, optV] at h
          split at h
          · rename_i v hv
            simp only [Option.some.injEq] at h
            exact done v h.symm (fin (some (evA get z)) none e1 trivial v hv)
          · cases h
      | some y =>
        cases hi with
        | none => exact e2.elim
        | some yo =>
          simp only [Cop.args, Option.toList_none, Option.toList_some, List.append_nil, List.cons_append, List.nil_append, List.map_cons, List.map_nil, act, optV] at h
          split at h
          · rename_i v hv
            simp only [Option.some.injEq] at h
            exact done v h.symm (fin (some (evA get z)) (some (evA get y)) e1 e2 v hv)
          · cases h

theorem sls_sound {g : Gh} {obj : Nat → Option Obj} {w : World} {t : TypeId} (ht : P.underlying t = some .string) {x : List UInt8} {xv : Value} (hx : VRel tab g obj w (.d (.s x)) xv) {lo hi : Option V} {lv hv : Option Value} {l h : Nat}
    (hlo : match lo, lv with | none, none => True | some x, some v => VRel tab g obj w x v | _, _ => False) (hhi : match hi, hv with | none, none => True | some x, some v => VRel tab g obj w x v | _, _ => False)
    (hb : bounds lo hi x.length = some (l, h)) : ∃ rv, (Instr.sliceAt t xv lv hv none).run P w = .ok rv w ∧ VRel tab g obj w (.d (.s ((x.take h).drop l))) rv := by
  simp only [VRel, DRel] at hx
  obtain ⟨s, rfl, rfl⟩ := hx
  have hl : s.data.toList.length = s.size := by rw [Array.length_toList]; rfl
  rw [hl] at hb
  obtain ⟨k1, k2, k3⟩ := run_bounds (P := P) hlo hhi hb (Nat.le_refl _) false
  refine ⟨.string (s.extract l h), by simp [Instr.sliceAt, Instr.slice, run_underlying ht, k3], ?_⟩
  simp only [VRel, DRel]
  refine ⟨_, rfl, ?_⟩
  rw [ByteArray.data_extract, Array.toList_extract, List.extract_eq_take_drop, List.take_drop]
  congr 2
  omega

theorem ok_sls {t : TypeId} {x : Operand} {lo hi : Option Operand} {a : A} {l h' : Option A} (ho : o.op = .slice t x lo hi none) (ht : P.underlying t = some .string)
    (ha : compA P tab (some t) x = some a) (hl : compOpt P tab none lo = some l) (hh : compOpt P tab none hi = some h') : OkOp P tab o (.sls a l h') := by
  intro nt g get obj b w hR fresh r hf h K Q hK
  have hx := compA_rel (w := w) ha hR.tmp
  have e1 := compOpt_rel (w := w) hl hR.tmp
  have e2 := compOpt_rel (w := w) hh hR.tmp
  have fin : ∀ (lv hv : Option V) (xs : List UInt8) (p : Nat × Nat), evA get a = .d (.s xs) → (match lv, lo.map b.eval with | none, none => True | some x, some v => VRel tab g obj w x v | _, _ => False) → (match hv, hi.map b.eval with | none, none => True | some x, some v => VRel tab g obj w x v | _, _ => False) →
      bounds lv hv xs.length = some p → r = ⟨.d (.s ((xs.take p.2).drop p.1)), ((Cop.ids (.sls a l h') ((Cop.args (.sls a l h')).map (evA get))).map obj), none⟩ → o.wp P b w K Q := by
    intro lv hv xs p ea k1 k2 k3 er
    rw [ea] at hx
    obtain ⟨rv, m1, m2⟩ := sls_sound (P := P) ht hx k1 k2 k3
    subst er
    exact wp_value (by simp [execOp, ho, m1]) (hK g rv w (.refl hR.heap) m2)
  cases l with
  | none =>
    cases lo with
    | some _ => exact e1.elim
    | none =>
      cases h' with
      | none =>
        cases hi with
        | some _ => exact e2.elim
        | none =>
          simp only [Cop.args, Option.toList_none, List.append_nil, List.map_cons, List.map_nil, act] at h
          generalize ea : evA get a = xv at h
          cases xv with
          | d x =>
            cases x with
            | s xs =>
              simp only [Option.some.injEq] at h
              refine fin none none xs (0, xs.length) ea trivial trivial (by simp [bounds]) ?_
              rw [← h]
              simp [Cop.ids]
            | _ => simp at h
          | _ => simp at h
      | some y =>
        cases hi with
        | none => exact e2.elim
        | some yo =>
          simp only [Cop.args, Option.toList_none, Option.toList_some, List.append_nil, List.cons_append, List.nil_append, List.map_cons, List.map_nil, act] at h
          generalize ea : evA get a = xv at h
          cases xv with
          | d x =>
            cases x with
            | s xs =>
              simp only at h
              split at h
              · rename_i p1 p2 hb
                simp only [Option.some.injEq] at h
                refine fin none (some (evA get y)) xs (p1, p2) ea trivial e2 hb ?_
                rw [← h]
                simp [Cop.ids]
              · cases h
            | _ => simp at h
          | _ => simp at h
  | some z =>
    cases lo with
    | none => exact e1.elim
    | some zo =>
      cases h' with
      | none =>
        cases hi with
        | some _ => exact e2.elim
        | none =>
          simp only [Cop.args, Option.toList_none, Option.toList_some, List.append_nil, List.cons_append, List.nil_append, List.map_cons, List.map_nil, act] at h
          generalize ea : evA get a = xv at h
          cases xv with
          | d x =>
            cases x with
            | s xs =>
              simp only at h
              split at h
              · rename_i p1 p2 hb
                simp only [Option.some.injEq] at h
                refine fin (some (evA get z)) none xs (p1, p2) ea e1 trivial hb ?_
                rw [← h]
                simp [Cop.ids]
              · cases h
            | _ => simp at h
          | _ => simp at h
      | some y =>
        cases hi with
        | none => exact e2.elim
        | some yo =>
          simp only [Cop.args, Option.toList_none, Option.toList_some, List.append_nil, List.cons_append, List.nil_append, List.map_cons, List.map_nil, act] at h
          generalize ea : evA get a = xv at h
          cases xv with
          | d x =>
            cases x with
            | s xs =>
              simp only at h
              split at h
              · rename_i p1 p2 hb
                simp only [Option.some.injEq] at h
                refine fin (some (evA get z)) (some (evA get y)) xs (p1, p2) ea e1 e2 hb ?_
                rw [← h]
                simp [Cop.ids]
              · cases h
            | _ => simp at h
          | _ => simp at h

/-! ### append -/

theorem ok_app {t u e ty : TypeId} {x y : Operand} {cop : Cop} (ho : o.op = .call { callee := .builtin .append, args := #[x, y], argTypes := #[t, u] }) (ht : P.underlying t = some (.slice e)) (hu : isSliceT P u = true) (hcz : P.cellsOf e ≠ 0) (hbz : P.bytesOf e ≠ 0)
    (hz : (zeroOf P e).isSome = true) (hc : bi2 P tab (some t) (some u) x y (.app (P.cellsOf e) (P.bytesOf e)) = some cop) : OkOp P tab o cop := by
  obtain ⟨a', b', ha, hb, rfl⟩ := bi2_rel hc
  intro nt g get obj a w hR fresh r hf h K Q hK
  have hx := compA_rel (w := w) ha hR.tmp
  have hy := compA_rel (w := w) hb hR.tmp
  simp only [Cop.args, List.map_cons, List.map_nil, act] at h hK
  obtain ⟨id, ver, zs, e1, ⟨_, e2⟩, g', v, w', k1, k2, k3⟩ := app_sound (P := P) (ty := o.type) hR.heap ht hu hcz hbz hz hf h hx hy
  have hres : resO obj (Cop.wr (.app (P.cellsOf e) (P.bytesOf e) a' b')) (Cop.ids (.app (P.cellsOf e) (P.bytesOf e) a' b') [evA get a', evA get b']) r fresh = updO obj id (some (.tok ver (P.cellsOf e))) := by
    rcases e2 with ⟨m1, m2, m3, m4⟩ | ⟨m1, m2, m3⟩
    · rw [m4]; simp [resO, m1, m2, m3, updL, Cop.wr]
    · rw [m3]; simp [resO, m1, m2, updL, Cop.wr]
  rw [hres] at hK
  refine wp_value ?_ (hK g' v w' k2 k3)
  simp [execOp, ho, resolve, invoke, builtin, k1]

/-! ### least and greatest -/

theorem fold_sound {g : Gh} {obj : Nat → Option Obj} {w : World} (mx : Bool) (k : IntKind) : ∀ (vs : List V) (us : List Value) (x y : Int), VList tab g obj w vs us → foldI mx k x vs = some y →
    (us.foldlM (fun a b => if mx then Builtin.max2 a b else Builtin.min2 a b) (.int k x)).run P w = .ok (.int k y) w
  | [], [], x, y, _, h => by simp only [foldI, Option.some.injEq] at h; subst h; simp
  | v :: vs, u :: us, x, y, hv, h => by
    simp only [VList] at hv
    cases v with
    | d d =>
      cases d with
      | i k' z =>
        simp only [foldI] at h
        split at h
        · rename_i e
          subst e
          have hu := hv.1
          simp only [VRel, DRel] at hu
          subst hu
          have := fold_sound mx k vs us _ y hv.2 h
          cases mx
          · simp only [Bool.false_eq_true, if_false] at this ⊢
            simp only [List.foldlM_cons, Sem.run_bind, Builtin.min2, Sem.run_pure, Result.andThen_ok]
            exact this
          · simp only [if_true] at this ⊢
            simp only [List.foldlM_cons, Sem.run_bind, Builtin.max2, Sem.run_pure, Result.andThen_ok]
            exact this
        · cases h
      | _ => simp [foldI] at h
    | _ => simp [foldI] at h
  | [], _ :: _, _, _, hv, _ => by simp only [VList] at hv
  | _ :: _, [], _, _, hv, _ => by simp only [VList] at hv

theorem ok_mm {mx : Bool} {c : Call} {as : List A} (ho : o.op = .call c) (hcal : c.callee = .builtin (if mx then .max else .min)) (hc : compAs P tab (c.argTypes.toList.map some) c.args.toList = some as) : OkOp P tab o (.mm mx as) := by
  intro nt g get obj a w hR fresh r hf h K Q hK
  have hv := compAs_rel (w := w) hc hR.tmp
  simp only [Cop.args, act, optD] at h hK
  split at h
  · rename_i d hd
    simp only [Option.some.injEq] at h
    subst h
    generalize as.map (evA get) = vs at hv hd
    cases vs with
    | nil => simp [maxInt] at hd
    | cons v vs =>
      cases v with
      | d dx =>
        cases dx with
        | i k x =>
          simp only [maxInt] at hd
          split at hd
          · rename_i y hy
            simp only [Option.some.injEq] at hd
            subst hd
            cases hargs : c.args.toList.map a.eval with
            | nil => rw [hargs] at hv; simp only [VList] at hv
            | cons u us =>
              rw [hargs] at hv
              simp only [VList] at hv
              have hu := hv.1
              simp only [VRel, DRel] at hu
              subst hu
              have hf := fold_sound (P := P) mx k vs us x y hv.2 hy
              have hargs' : (c.args.map a.eval).toList = .int k x :: us := by simpa using hargs
              refine wp_value (v := .int k y) (w' := w) ?_ (hK g _ w (.refl hR.heap) (by simp only [VRel, DRel]))
              cases mx
              · simp only [Bool.false_eq_true, if_false] at hf hcal
                simp [execOp, ho, resolve, hcal, invoke, builtin, Builtin.min_, hargs, hf]
              · simp only [if_true] at hf hcal
                simp [execOp, ho, resolve, hcal, invoke, builtin, Builtin.max_, hargs, hf]
          · cases hd
        | _ => simp [maxInt] at hd
      | _ => simp [maxInt] at hd
  · cases h

/-! ### literals of functions -/

theorem ok_mkf {f : FuncId} {first cap : Array Operand} {k : Nat} {as cs : List A} (ho : o.op = .makeFunc (.func f) first cap) (hk : keyOf tab f = some k) (h1 : compAs P tab [] first.toList = some as) (h2 : compAs P tab [] cap.toList = some cs) :
    OkOp P tab o (.mkf k as cs false) := by
  intro nt g get obj a w hR fresh r hf h K Q hK
  have e1 := compAs_rel (w := w) h1 hR.tmp
  have e2 := compAs_rel (w := w) h2 hR.tmp
  simp only [Cop.args, act, Bool.false_eq_true, if_false, Option.some.injEq] at h hK
  subst h
  refine wp_value (v := .func (.func f) (first.map a.eval) (cap.map a.eval)) (w' := w) ?_ (hK g _ w (.refl hR.heap) ?_)
  · simp [execOp, ho, Instr.makeFunc]
  · simp only [VRel]
    refine ⟨f, first.toList.map a.eval, cap.toList.map a.eval, hk, by congr 1 <;> (apply Array.ext'; simp), ?_, ?_⟩
    · rw [List.map_append, List.take_left' (by simp)]; exact e1
    · rw [List.map_append, List.drop_left' (by simp)]; exact e2

end
end Ab
