/-
 What is reckoned is a value that may be.
-/
import Derived.Test.YtblhbdagpefloaaGreatDoorX7
namespace Ab.Vx
open Go
set_option linter.unusedVariables false
structure Gd (v : GVal) : Prop where
 may : mayV v = true
 size : szN v ≤ 60
theorem may_parts {v : GVal} (h : mayV v = true) : (1 ≤ v.kind ∧ v.kind ≤ 7) ∧ numOk v.kind v.i = true ∧ (v.kind = 3 ∨ v.s = []) ∧ rowOk v.kind v.l = true ∧ ∀ x ∈ v.l, x.kind ≠ 7 ∧ mayV x = true := by
 rw [mayV_eq] at h
 simp only [Bool.and_eq_true, decide_eq_true_eq, Bool.or_eq_true, List.isEmpty_iff] at h
 obtain ⟨⟨⟨⟨h1, h2⟩, h3⟩, h4⟩, h5⟩ := h
 refine ⟨h1, h2, h3, h4, fun x hx => ?_⟩
 rw [mayL_all, List.all_eq_true] at h5
 have := h5 x hx
 simpa using this
theorem may_mk {k i : Int} {s : List UInt8} {l : List GVal} (h1 : 1 ≤ k ∧ k ≤ 7) (h2 : numOk k i = true) (h3 : k = 3 ∨ s = []) (h4 : rowOk k l = true) (h5 : ∀ x ∈ l, x.kind ≠ 7 ∧ mayV x = true) : mayV (.mk k i s l) = true := by
 rw [mayV_eq]
 simp only [gF, Bool.and_eq_true, decide_eq_true_eq, Bool.or_eq_true, List.isEmpty_iff]
 refine ⟨⟨⟨⟨h1, h2⟩, h3⟩, h4⟩, ?_⟩
 rw [mayL_all, List.all_eq_true]
 intro x hx
 obtain ⟨a, b⟩ := h5 x hx
 simp [a, b]
theorem row5 {l : List GVal} : rowOk 5 l = true ↔ chainB ltV l = true := by simp [rowOk]
theorem row6 {l : List GVal} : rowOk 6 l = true ↔ (∀ x ∈ l, pairV x = true) ∧ chainB ltK l = true := by simp [rowOk, List.all_eq_true]
theorem row3 {k : Int} {l : List GVal} (h : k ≠ 4) (h5 : k ≠ 5) (h6 : k ≠ 6) : rowOk k l = true ↔ l = [] := by
 unfold rowOk
 rw [if_neg h, if_neg h5, if_neg h6]; simp
theorem may_ord {v : GVal} (h : mayV v = true) : Ord v := by
 obtain ⟨_, _, _, h4, _⟩ := may_parts h
 refine ⟨fun e => ?_, fun e => ?_⟩
 ·rw [e] at h4; exact row5.1 h4
 ·rw [e] at h4
  obtain ⟨a, b⟩ := row6.1 h4
  exact ⟨b, fun x hx => pair_len (a x hx)⟩
theorem may_bad {e : Int} (h : 1 ≤ e ∧ e ≤ 13) : mayV (badG e) = true := may_mk (by decide) (by simp [numOk, h]) (.inr rfl) (by simp [rowOk]) (by simp)
theorem may_int (n : Int) : mayV (intG n) = true := may_mk (by decide) (by simp [numOk]) (.inr rfl) (by simp [rowOk]) (by simp)
theorem may_bool (b : Bool) : mayV (boolG b) = true := may_mk (by decide) (by cases b <;> decide) (.inr rfl) (by simp [rowOk]) (by simp)
theorem may_str (s : List UInt8) : mayV (.mk 3 0 s []) = true := may_mk (by decide) (by decide) (.inl rfl) (by simp [rowOk]) (by simp)
theorem may_sum (op a b : Int) : mayV (sumG op a b) = true := by
 unfold sumG
 repeat' split
 all_goals first | exact may_bad (by decide) | exact may_int _
theorem may_logic (op : Int) (a b : GVal) : mayV (logicG op a b) = true := by
 unfold logicG
 repeat' split
 all_goals first | exact may_bad (by decide) | exact may_bool _
theorem may_length (a : GVal) : mayV (lengthG a) = true := by
 unfold lengthG
 repeat' split
 all_goals first | exact may_bad (by decide) | exact may_int _
theorem may_cat {a b : GVal} (ha : mayV a = true) (hb : mayV b = true) : mayV (catG a b) = true := by
 obtain ⟨a1, a2, a3, a4, a5⟩ := may_parts ha
 obtain ⟨b1, b2, b3, b4, b5⟩ := may_parts hb
 unfold catG
 split
 ·exact may_bad (by decide)
 ·rename_i h
  have hk : a.kind = b.kind := by rcases Decidable.em (a.kind = b.kind) with e | e; exact e; exact absurd (.inl e) h
  have h34 : a.kind = 3 ∨ a.kind = 4 := by
   rcases Decidable.em (a.kind = 3) with e | e
   ·exact .inl e
   ·rcases Decidable.em (a.kind = 4) with e4 | e4
    ·exact .inr e4
    ·exact absurd (.inr ⟨e, e4⟩) h
  rcases h34 with e | e
  ·have la := (row3 (by omega) (by omega) (by omega)).1 a4
   have lb := (row3 (by omega) (by omega) (by omega)).1 b4
   rw [la, lb, e]
   exact may_mk (by decide) (by decide) (.inl rfl) (by simp [rowOk]) (by simp)
  ·rw [e]
   refine may_mk (by decide) (by decide) (.inr ?_) (by simp [rowOk]) (fun x hx => ?_)
   ·have h1 : a.s = [] := by rcases a3 with h | h; omega; exact h
    have h2 : b.s = [] := by rcases b3 with h | h; omega; exact h
    rw [h1, h2]; rfl
   ·rcases List.mem_append.1 hx with hx | hx
    ·exact a5 x hx
    ·exact b5 x hx
theorem may_get {m k : GVal} (hm : mayV m = true) : mayV (getG m k) = true := by
 obtain ⟨_, _, _, _, a5⟩ := may_parts hm
 unfold getG
 split
 ·split
  ·rename_i k0 i0 s0 y x r hx
   obtain ⟨_, h2⟩ := a5 _ (List.mem_of_getElem? hx)
   obtain ⟨_, _, _, _, b5⟩ := may_parts h2
   exact (b5 x (by simp [GVal.l])).2
  ·exact may_bad (by decide)
 ·exact may_bad (by decide)
theorem may_set {op : Int} {s v : GVal} (hs : mayV s = true) (hv : mayV v = true) (h7 : v.kind ≠ 7) : mayV (setG op s v) = true := by
 obtain ⟨_, _, _, a4, a5⟩ := may_parts hs
 unfold setG
 split
 ·rename_i h5
  rw [h5] at a4
  split
  ·exact may_bool _
  ·refine may_mk (by decide) (by decide) (.inr rfl) (row5.2 (insV_chain (row5.1 a4))) (fun x hx => ?_)
   rcases insV_mem hx with h | rfl
   ·exact a5 x h
   ·exact ⟨h7, hv⟩
 ·exact may_bad (by decide)
def chainK : List (List UInt8) → Bool
 | [] => true
 | [_] => true
 | x :: y :: r => bytesLess x y && chainK (y :: r)
theorem chain_keys : ∀ (l : List GVal), chainB ltK l = chainK (l.map keyV)
 | [] => rfl
 | [_] => rfl
 | x :: y :: r => by
  have := chain_keys (y :: r)
  simp only [List.map_cons] at this ⊢
  simp only [chainB, chainK, ltK, this]
theorem posK_not (k : List UInt8) : ∀ (l : List GVal) x, l[posK k l]? = some x → bytesLess (keyV x) k = false
 | [], x, hx => by simp at hx
 | y :: r, x, hx => by
  simp only [posK] at hx
  split at hx
  ·exact posK_not k r x (by simpa using hx)
  ·rename_i hb; simp at hx; subst hx; simpa using hb
theorem put_chain {l : List GVal} (h : chainB ltK l = true) (hp : ∀ x ∈ l, pairV x = true) {k v : GVal} : chainB ltK (putL l k v) = true := by
 have hkey : keyV (pairG k v) = k.s := rfl
 unfold putL
 cases hh : hasK k.s l with
 | true =>
  obtain ⟨x, hx⟩ := hasK_get hh
  have hlt : posK k.s l < l.length := by
   rcases Nat.lt_or_ge (posK k.s l) l.length with h | h
   ·exact h
   ·rw [List.getElem?_eq_none h] at hx; cases hx
  have hk : keyV x = k.s := by
   unfold hasK at hh
   rw [hx] at hh
   simp only [Bool.and_eq_true, decide_eq_true_eq] at hh
   exact hh.2
  rw [if_pos rfl, chain_keys]
  have e : l = l.take (posK k.s l) ++ x :: l.drop (posK k.s l + 1) := by
   have := List.getElem?_eq_some_iff.1 hx
   obtain ⟨h1, h2⟩ := this
   rw [← h2, ← List.drop_eq_getElem_cons h1, List.take_append_drop]
  have h2 := h
  rw [e, chain_keys] at h2
  rw [List.map_append, List.map_cons, hkey]
  rw [List.map_append, List.map_cons, hk] at h2
  exact h2
 | false =>
  rw [if_neg (by simp)]
  have hc := chain_ins (p := ltK) (v := pairG k v) (pos := posK k.s) rfl (fun x r => by simp only [posK, ltK, hkey]) l h (fun x hx => by
   have h1 := posK_not k.s l x hx
   have h2 : keyV x ≠ k.s := fun e => by
    unfold hasK at hh
    rw [hx] at hh
    simp only [e, decide_true, Bool.and_true, decide_eq_false_iff_not] at hh
    have := pair_len (hp x (List.mem_of_getElem? hx))
    omega
   simp only [ltK, hkey]
   rcases bl_total k.s (keyV x) with h3 | h3 | h3
   ·exact h3
   ·exact absurd h3.symm h2
   ·rw [h1] at h3; cases h3)
  rw [List.append_assoc] at hc
  exact hc
theorem put_mem {l : List GVal} {k v x : GVal} (h : x ∈ putL l k v) : x ∈ l ∨ x = pairG k v := by
 unfold putL at h
 simp only [List.mem_append, List.mem_cons] at h
 rcases h with h | h | h
 ·exact .inl (List.mem_of_mem_take h)
 ·exact .inr h
 ·exact .inl (List.mem_of_mem_drop h)
theorem may_put {m k v : GVal} (hm : mayV m = true) (hk : mayV k = true) (hv : mayV v = true) (h6 : m.kind = 6) (h3 : k.kind = 3) (h7 : v.kind ≠ 7) : mayV (.mk 6 0 [] (putL m.l k v)) = true := by
 obtain ⟨_, _, _, a4, a5⟩ := may_parts hm
 rw [h6] at a4
 obtain ⟨r1, r2⟩ := row6.1 a4
 have hp : pairV (pairG k v) = true := by
  show (decide ((4 : Int) = 4) && decide (k.kind = 3)) = true
  rw [decide_eq_true h3]; rfl
 refine may_mk (by decide) (by decide) (.inr rfl) (row6.2 ⟨fun x hx => ?_, put_chain r2 r1⟩) (fun x hx => ?_)
 ·rcases put_mem hx with h | rfl
  ·exact r1 x h
  ·exact hp
 ·rcases put_mem hx with h | rfl
  ·exact a5 x h
  ·refine ⟨(show (4 : Int) ≠ 7 by decide), may_mk (by decide) (by decide) (.inr rfl) (by simp [rowOk]) (fun x hx => ?_)⟩
   rcases List.mem_cons.1 hx with rfl | hx
   ·exact ⟨by omega, hk⟩
   ·rcases List.mem_cons.1 hx with rfl | hx
    ·exact ⟨h7, hv⟩
    ·cases hx
theorem may_of {op : Int} {l : List GVal} (hl : ∀ x ∈ l, mayV x = true ∧ x.kind ≠ 7) : mayV (ofG op l) = true := by
 unfold ofG
 split
 ·exact may_mk (by decide) (by decide) (.inr rfl) (by simp [rowOk, chainB]) (by simp)
 split
 ·exact may_mk (by decide) (by decide) (.inr rfl) (by simp [rowOk, chainB]) (by simp)
 split
 ·exact may_mk (by decide) (by decide) (.inr rfl) (by simp [rowOk]) (fun x hx => ⟨(hl x hx).2, (hl x hx).1⟩)
 split
 ·split
  ·exact may_logic _ _ _
  ·exact may_length _
 ·rename_i a b
  have ha := hl a (by simp)
  have hb := hl b (by simp)
  unfold of2G
  repeat' split
  all_goals first | exact may_bad (by decide) | exact may_sum _ _ _ | exact may_bool _ | exact may_logic _ _ _ | exact may_cat ha.1 hb.1 | exact may_get ha.1 | exact may_set ha.1 hb.1 hb.2
 ·rename_i a b c
  have ha := hl a (by simp)
  have hb := hl b (by simp)
  have hc := hl c (by simp)
  split
  ·rename_i h
   exact may_put ha.1 hb.1 hc.1 h.1 h.2 hc.2
  ·exact may_bad (by decide)
 ·exact may_bad (by decide)
end Ab.Vx
