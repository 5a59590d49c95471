/-
 Ins: a row with one more.
-/
import Derived.Test.YtblhbdagpefloaaGreatDoorVx14
namespace Ab.Vx
open Go
set_option linter.unusedVariables false
set_option linter.unusedSimpArgs false
set_option maxRecDepth 100000
variable {E : Nat → Option Fn}
theorem settle_row (l : List GVal) (hl : l.length ≤ 1001) : settle 0 (.arr 0 0 0 l.length) [some (.arr 0 4 ((gvalRows l).map ofDs))] = some (.d (.l 4 (gvalRows l)), []) := by
 have h1 := lend_rows (fun i => ([some (Obj.arr 0 4 ((gvalRows l).map ofDs))][i]?).join) (id := 0) l hl rfl
 have h2 : reach (fun i => ([some (Obj.arr 0 4 ((gvalRows l).map ofDs))][i]?).join) far [0] [] = some [0] := by simp [reach, far, Obj.refs, refsRows_vals]
 have hf : frzA 0 (fun i => ([some (Obj.arr 0 4 ((gvalRows l).map ofDs))][i]?).join) (.arr 0 0 0 l.length) = some (.d (.l 4 (gvalRows l))) := by
  simp only [frzA, frzV, frz1, Nat.le_refl, if_true, h1]
 unfold settle
 rw [show ansIds 0 (.arr 0 0 0 l.length) = [0] by simp [ansIds, valIds, V.arrIds]]
 simp only [hf, h2]
 simp [V.refs, reach, far, renObjs, V.ren]
theorem insert_call (h134 : E 134 = some (.prim insImpl)) (l : List GVal) (v : GVal) (i : Nat) (hi : i ≤ l.length) (hl : l.length ≤ 1000) :
  lcall E 134 [.arr 0 0 0 l.length, .d (.i .i64 i), .d (.l 4 [v.row])] [some (.arr 0 4 ((gvalRows l).map ofDs))] = some (.d (.l 4 (gvalRows (l.take i ++ v :: l.drop i))), [some (.arr 1 4 [])]) := by
 have e : insRows (gvalRows l) i v.row = gvalRows (l.take i ++ v :: l.drop i) := by simp [insRows, gvalRows_append, gvalRows_take, gvalRows_drop, gvalRows]
 rw [lcall_prim h134]
 simp only [insImpl, rowsD_ofDs]
 rw [if_pos ⟨trivial, by simp [gvalRows_length], by omega, by omega, by omega⟩]
 simp only [Int.toNat_natCast, e]
theorem ins116_ok (h116 : E 116 = some (.code c116)) (h133 : E 133 = some (.code c133)) (h147 : E 147 = some (.code c147)) (h134 : E 134 = some (.prim insImpl)) (hmine : ∀ v, Small v → lcall E 132 [v.arg] [] = some (mineR v))
  (hcmp : ∀ (a b : GVal), Small a → Small b → lcall E 114 [a.arg, b.arg] [] = some (.d (.i .i64 (cmpV a b)), [])) {l : List GVal} (hl : l.length ≤ 1000) (hs : ∀ x ∈ l, Small x) {v : GVal} (hv : Small v) (hch : chainB ltV l = true) :
  ∃ r h, lcall E 116 [.d (.l 4 (gvalRows l)), v.arg] [] = some (r, h) ∧ settle 0 r h = some (.d (.l 4 (gvalRows (insV l v))), []) := by
 have hm := hmine (.mk 0 0 [] l) (small_mk hl hs)
 have hp := place133_ok h133 h147 hl (t := v) (f := 114) (c := fun x => cmpV x v) (fun x hx => hcmp x v (hs x hx) hv) (part_cmp v hch)
 have hv2 := hmine v hv
 have hle := posV_le v l
 simp only [GVal.arg, GVal.kind, GVal.i, GVal.s, GVal.l, mineR] at hm
 refine (call_wxP h116 (R := fun x => settle 0 x.1 x.2 = some (.d (.l 4 (gvalRows (insV l v))), [])) ?_).elim fun x hx => ⟨x.1, x.2, hx.1, hx.2⟩
 refine wx_seq (wx_region fun K hK => ?_)
 simp only [evW, evX, evM, evN, ↓reduceIte, Nat.reduceAdd, reduceCtorEq]
 refine hK _ _ ?_; clear hK K
 refine wx_seq (wx_region fun K hK => ?_)
 simp only [evW, evX, evM, evN, evC, far, ↓reduceIte, Nat.reduceAdd, Nat.reduceLeDiff, Nat.reduceSub, Nat.reduceLT, reduceCtorEq, hm, renRows_data, range_one]
 refine hK _ _ ?_; clear hK K
 refine wx_seq (wx_region fun K hK => ?_)
 simp only [evW, evX, evM, evN, evC, far, ↓reduceIte, Nat.reduceEqDiff, Nat.reduceAdd, Nat.reduceLeDiff, reduceCtorEq, hp]
 refine hK _ _ ?_; clear hK K
 refine wx_seq (wx_seq ?_)
 refine wx_region fun K hK => ?_
 simp only [evW, evX, evM, evN, ↓reduceIte, Nat.reduceAdd]
 refine hK _ _ ?_; clear hK K
 have hins := insert_call h134 l v (posV v l) hle hl
 have hrow := row_eq v
 cases hh : hasP l (fun x => cmpV x v) (posV v l) with
 | true =>
  have e : insV l v = l := by
   unfold hasP at hh
   unfold insV
   split at hh
   ·rename_i x hx
    rw [hx]
    exact if_pos (of_decide_eq_true hh)
   ·cases hh
  rw [e]
  refine wx_cond true rfl (fun _ => ?_) (fun h => by cases h)
  refine wx_seq (wx_region fun K hK => ?_)
  simp only [evW, evX, evM, evN, ↓reduceIte, Nat.reduceEqDiff, Nat.reduceAdd]
  refine hK _ _ ?_; clear hK K
  refine wx_ret ⟨.inr rfl, (.arr 0 0 0 l.length, [some (.arr 0 4 ((gvalRows l).map ofDs))]), ?_, settle_row l (by omega)⟩
  simp only [evR, evX, evC, evN, ↓reduceIte, far, c116, renRows_data, refsRows_data]
 | false =>
  have e : insV l v = l.take (posV v l) ++ v :: l.drop (posV v l) := by
   unfold hasP at hh
   unfold insV
   split at hh
   ·rename_i x hx
    rw [hx]
    simp [of_decide_eq_false hh]
   ·rename_i hx
    rw [hx]
    simp
  rw [e]
  rw [hrow] at hins
  refine wx_cond false rfl (fun h => by cases h) (fun _ => wx_skip ?_)
  have hm2 : lcall E 132 [v.arg] [] = some (.agg [.d (.i .i64 v.kind), .d (.i .i64 v.i), .d (.s v.s), .arr 0 0 0 v.l.length], [some (.arr 0 4 ((gvalRows v.l).map ofDs))]) := hv2
  have hsm : ∀ a b c, settle 0 (.agg [.d a, .d b, .d c, .arr 0 0 0 v.l.length]) [some (.arr 0 4 ((gvalRows v.l).map ofDs))] = some (.agg [.d a, .d b, .d c, .d (.l 4 (gvalRows v.l))], []) := fun a b c => settle_mine a b c v.l (by have := hv.len; omega)
  refine wx_seq (wx_region fun K hK => ?_)
  simp only [evW, evX, evM, evN, evC, far, ↓reduceIte, Nat.reduceEqDiff, Nat.reduceAdd, Nat.reduceLeDiff, Nat.reduceLT, hm2, hsm, hins, renRows_data, refsRows_data]
  refine hK _ _ ?_; clear hK K
  refine wx_ret ⟨.inr rfl, (.d (.l 4 (gvalRows (l.take (posV v l) ++ v :: l.drop (posV v l)))), []), ?_, by simp [settle, ansIds, valIds, V.arrIds]⟩
  simp only [evR, evX, evC, evN, ↓reduceIte, far, c116]
end Ab.Vx
