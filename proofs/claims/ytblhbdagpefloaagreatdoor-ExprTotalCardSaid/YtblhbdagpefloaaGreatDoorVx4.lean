/-
 Rows of values: the document's Find and Ins.
-/
import Derived.Test.YtblhbdagpefloaaGreatDoorVx3
namespace Ab.Vx
open Go
set_option linter.unusedVariables false
set_option linter.unusedSimpArgs false
set_option maxRecDepth 100000
variable {E : Nat → Option Fn}
def keyV (v : GVal) : List UInt8 := match v.l with | [] => [] | x :: _ => x.s
theorem key_ok {k : Nat} {n : CFn} (hk : E k = some (.code n)) (hn : n = c137) (v : GVal) : lcall E k [v.arg] [] = some (.d (.s (keyV v)), []) := by
 subst hn
 refine call_wx hk ?_
 refine wx_seq (wx_region fun K hK => ?_)
 simp only [evW, evX, evM, evN, ↓reduceIte]
 refine hK _ _ ?_; clear hK K
 refine wx_seq (wx_seq ?_)
 cases hl : v.l with
 | nil =>
  refine wx_region fun K hK => ?_
  simp only [evW, evX, evM, evN, ↓reduceIte, Nat.reduceEqDiff, gvalRows]
  refine hK _ _ ?_; clear hK K
  refine wx_cond true rfl (fun _ => ?_) (fun h => by cases h)
  refine wx_seq (wx_region fun K hK => ?_)
  simp only [evW, evX, evM, evN]
  refine hK _ _ ?_; clear hK K
  refine wx_ret ⟨.inr rfl, ?_⟩
  simp only [evR, evX, evC, evN, ↓reduceIte, far, c137, keyV, hl]
 | cons x r =>
  have hne : ¬ ((r.length : Int) + 1 = 0) := by omega
  refine wx_region fun K hK => ?_
  simp only [evW, evX, evM, evN, ↓reduceIte, Nat.reduceEqDiff, gvalRows, gvalRows_length, Int.natCast_add, Int.cast_ofNat_Int, hne]
  refine hK _ _ ?_; clear hK K
  refine wx_cond false rfl (fun h => by cases h) (fun _ => wx_skip ?_)
  refine wx_seq (wx_region fun K hK => ?_)
  simp only [evW, evX, evM, evN, ↓reduceIte, Nat.reduceEqDiff, Int.toNat_zero, row_eq, Std.le_refl]
  refine hK _ _ ?_; clear hK K
  refine wx_ret ⟨.inr rfl, ?_⟩
  simp only [evR, evX, evC, evN, ↓reduceIte, far, c137, keyV, hl]
theorem gvalRows_append (a b : List GVal) : gvalRows (a ++ b) = gvalRows a ++ gvalRows b := by simp [gvalRows_eq]
theorem gvalRows_take (a : List GVal) (n : Nat) : (gvalRows a).take n = gvalRows (a.take n) := by simp [gvalRows_eq, List.map_take]
theorem gvalRows_drop (a : List GVal) (n : Nat) : (gvalRows a).drop n = gvalRows (a.drop n) := by simp [gvalRows_eq, List.map_drop]
def posK (k : List UInt8) : List GVal → Nat
 | [] => 0
 | x :: r => if bytesLess (keyV x) k then posK k r + 1 else 0
def hasK (k : List UInt8) (l : List GVal) : Bool := match l[posK k l]? with
 | some x => decide (0 < x.l.length) && decide (keyV x = k)
 | none => false
theorem posK_le (k : List UInt8) : ∀ (l : List GVal), posK k l ≤ l.length
 | [] => Nat.le_refl _
 | x :: r => by
  simp only [posK]
  split
  ·simpa using posK_le k r
  ·exact Nat.zero_le _
def findLoop : CCode := match c120.body with
 | .seq _ (.seq _ (.seq (.block _ (.loop _ c)) _)) => c
 | _ => .skip
theorem find_loop (hkey : ∀ v : GVal, lcall E 138 [v.arg] [] = some (.d (.s (keyV v)), [])) {l : List GVal} (hl : l.length ≤ 1000) (k : List UInt8) {Q : Ex → St → Prop}
  (hx : ∀ tm, look tm 0 = .d (.l 4 (gvalRows l)) → look tm 1 = .d (.s k) → look tm 6 = .d (.i .i64 (posK k l : Nat)) → Q (.exit 0) ⟨tm, []⟩) :
  ∀ (n i : Nat), i + n = l.length → posK k l = i + posK k (l.drop i) → LX E findLoop ⟨[0, 1, 6], [], [], [], [], true⟩ 0 ⟨[(0, .d (.l 4 (gvalRows l))), (1, .d (.s k)), (6, .d (.i .i64 i))], []⟩ Q := by
 intro n
 induction n with
 | zero =>
  intro i hi hp
  have hn : ¬ ((i : Int) < l.length) := by omega
  rw [List.drop_eq_nil_of_le (by omega), posK, Nat.add_zero] at hp
  refine lx_step (wx_seq (wx_seq ?_))
  refine wx_region fun K hK => ?_
  simp only [evW, evX, evM, evN, ↓reduceIte, Nat.reduceEqDiff, reduceCtorEq, gvalRows_length, hn]
  refine hK _ _ ?_; clear hK K
  refine wx_cond false rfl (fun h => by cases h) (fun _ => wx_exit ?_)
  exact hx _ rfl rfl (by rw [hp]; rfl)
 | succ n ihn =>
  intro i hi hp
  have hy : (i : Int) < l.length := by omega
  have la : i < l.length := by omega
  have h0 : (0 : Int) ≤ i := by omega
  have ga : (gvalRows l)[i]? = some (GVal.row l[i]) := by rw [gvalRows_get, List.getElem?_eq_getElem la]; rfl
  rw [drop_cons la, posK] at hp
  have hcall := hkey l[i]
  generalize l[i] = x at *
  have w : IntKind.i64.wrap ((i : Int) + 1) = ((i + 1 : Nat) : Int) := by rw [i64_in (by omega) (by omega)]; omega
  refine lx_step (wx_seq (wx_seq ?_))
  cases hb : bytesLess (keyV x) k with
  | true =>
   rw [hb, if_pos rfl] at hp
   refine wx_region fun K hK => ?_
   simp only [evW, evX, evM, evN, evC, far, ↓reduceIte, Nat.reduceEqDiff, Nat.reduceAdd, Nat.reduceLeDiff, reduceCtorEq, gvalRows_length, hy, h0, Int.toNat_natCast, ga, row_eq, hcall, hb]
   refine hK _ _ ?_; clear hK K
   refine wx_cond true rfl (fun _ => wx_skip ?_) (fun h => by cases h)
   refine wx_block ?_
   refine wx_region fun K hK => ?_
   simp only [evW, evX, evM, evN, ↓reduceIte, Nat.reduceEqDiff, reduceCtorEq, w]
   refine hK _ _ ?_; clear hK K
   refine ⟨_, ?_, ihn (i + 1) (by omega) (by omega)⟩
   simp only [evH, evX, evN, ↓reduceIte, Nat.reduceEqDiff, reduceCtorEq]
  | false =>
   rw [hb, if_neg (by simp), Nat.add_zero] at hp
   refine wx_region fun K hK => ?_
   simp only [evW, evX, evM, evN, evC, far, ↓reduceIte, Nat.reduceEqDiff, Nat.reduceAdd, Nat.reduceLeDiff, reduceCtorEq, gvalRows_length, hy, h0, Int.toNat_natCast, ga, row_eq, hcall, hb]
   refine hK _ _ ?_; clear hK K
   refine wx_cond false rfl (fun h => by cases h) (fun _ => wx_exit ?_)
   exact hx _ rfl rfl (by rw [hp]; rfl)
theorem refFind_ok (h120 : E 120 = some (.code c120)) (hkey : ∀ v : GVal, lcall E 138 [v.arg] [] = some (.d (.s (keyV v)), [])) {l : List GVal} (hl : l.length ≤ 1000) (k : List UInt8) :
  lcall E 120 [.d (.l 4 (gvalRows l)), .d (.s k)] [] = some (.tup [.d (.i .i64 (posK k l : Nat)), .d (.b (hasK k l))], []) := by
 refine call_wx h120 ?_
 refine wx_seq (wx_region fun K hK => ?_)
 simp only [evW, evX, evM, evN, Nat.reduceAdd]
 refine hK _ _ ?_; clear hK K
 refine wx_seq (wx_region fun K hK => ?_)
 simp only [evW, evX, evM, evN]
 refine hK _ _ ?_; clear hK K
 refine wx_seq (wx_block (wx_loop ?_))
 simp only [evH, evX, evN, ↓reduceIte, Nat.reduceEqDiff, reduceCtorEq]
 refine find_loop hkey hl k (fun tm t0 t1 t6 => ?_) l.length 0 (by omega) (by simp)
 have hle := posK_le k l
 by_cases hlt : posK k l < l.length
 ·have ga : (gvalRows l)[posK k l]? = some (GVal.row l[posK k l]) := by rw [gvalRows_get, List.getElem?_eq_getElem hlt]; rfl
  have hh : hasK k l = (decide (0 < l[posK k l].l.length) && decide (keyV l[posK k l] = k)) := by unfold hasK; rw [List.getElem?_eq_getElem hlt]
  have hcall := hkey l[posK k l]
  have hy : ((posK k l : Nat) : Int) < l.length := by omega
  have h0 : (0 : Int) ≤ (posK k l : Nat) := by omega
  rw [hh]
  generalize l[posK k l] = x at *
  by_cases hx : x.l.length = 0
  ·have hx' : ¬ ((0 : Int) < x.l.length) := by omega
   refine wx_seq (wx_region fun K hK => ?_)
   simp only [evW, evX, evM, evN, ↓reduceIte, Nat.reduceEqDiff, reduceCtorEq, t0, t6, gvalRows_length, hy, h0, Int.toNat_natCast, ga, row_eq, hx']
   refine hK _ _ ?_; clear hK K
   refine wx_ret ⟨.inr rfl, ?_⟩
   simp only [evR, evX, evC, evN, ↓reduceIte, Nat.reduceEqDiff, far, c120]
   simp [hx]
  ·have hx' : (0 : Int) < x.l.length := by omega
   refine wx_seq (wx_region fun K hK => ?_)
   simp only [evW, evX, evM, evN, evC, far, ↓reduceIte, Nat.reduceEqDiff, Nat.reduceAdd, Nat.reduceLeDiff, reduceCtorEq, t0, t1, t6, gvalRows_length, hy, h0, Int.toNat_natCast, ga, row_eq, hx', hcall]
   refine hK _ _ ?_; clear hK K
   refine wx_ret ⟨.inr rfl, ?_⟩
   simp only [evR, evX, evC, evN, ↓reduceIte, Nat.reduceEqDiff, far, c120]
   simp [Nat.pos_of_ne_zero hx]
 ·have hy : ¬ (((posK k l : Nat) : Int) < l.length) := by omega
  have hh : hasK k l = false := by unfold hasK; rw [List.getElem?_eq_none (by omega)]
  refine wx_seq (wx_region fun K hK => ?_)
  simp only [evW, evX, evM, evN, ↓reduceIte, Nat.reduceEqDiff, reduceCtorEq, t0, t6, gvalRows_length, hy]
  refine hK _ _ ?_; clear hK K
  refine wx_ret ⟨.inr rfl, ?_⟩
  simp only [evR, evX, evC, evN, ↓reduceIte, Nat.reduceEqDiff, far, c120, hh]
def posV (v : GVal) : List GVal → Nat
 | [] => 0
 | x :: r => if cmpV x v < 0 then posV v r + 1 else 0
theorem posV_le (v : GVal) : ∀ (l : List GVal), posV v l ≤ l.length
 | [] => Nat.le_refl _
 | x :: r => by
  simp only [posV]
  split
  ·simpa using posV_le v r
  ·exact Nat.zero_le _
def insV (l : List GVal) (v : GVal) : List GVal := match l[posV v l]? with
 | some x => if cmpV x v = 0 then l else l.take (posV v l) ++ [v] ++ l.drop (posV v l)
 | none => l.take (posV v l) ++ [v] ++ l.drop (posV v l)
def insLoop : CCode := match c117.body with
 | .seq _ (.seq _ (.seq (.block _ (.loop _ c)) _)) => c
 | _ => .skip
theorem ins_loop {v : GVal} {l : List GVal} (hcmp : ∀ x ∈ l, lcall E 115 [x.arg, v.arg] [] = some (.d (.i .i64 (cmpV x v)), [])) (hl : l.length ≤ 1000) {Q : Ex → St → Prop}
  (hx : ∀ tm, look tm 0 = .d (.l 4 (gvalRows l)) → look tm 3 = .ptr 0 0 → look tm 5 = .d (.i .i64 (posV v l : Nat)) → Q (.exit 0) ⟨tm, [vbox v]⟩) :
  ∀ (n i : Nat), i + n = l.length → posV v l = i + posV v (l.drop i) → LX E insLoop ⟨[0, 3, 5], [], [], [], [], true⟩ 1 ⟨[(0, .d (.l 4 (gvalRows l))), (3, .ptr 0 0), (5, .d (.i .i64 i))], [vbox v]⟩ Q := by
 intro n
 induction n with
 | zero =>
  intro i hi hp
  have hn : ¬ ((i : Int) < l.length) := by omega
  rw [List.drop_eq_nil_of_le (by omega), posV, Nat.add_zero] at hp
  refine lx_step (wx_seq (wx_seq ?_))
  refine wx_regionT fun K hK => ?_
  simp only [evW, evX, evM, evN, ↓reduceIte, Nat.reduceEqDiff, reduceCtorEq, gvalRows_length, hn]
  refine hK _ _ (by rfl) ?_; clear hK K
  refine wx_cond false rfl (fun h => by cases h) (fun _ => wx_exit ?_)
  exact hx _ rfl rfl (by rw [hp]; rfl)
 | succ n ihn =>
  intro i hi hp
  have hy : (i : Int) < l.length := by omega
  have la : i < l.length := by omega
  have h0 : (0 : Int) ≤ i := by omega
  have ga : (gvalRows l)[i]? = some (GVal.row l[i]) := by rw [gvalRows_get, List.getElem?_eq_getElem la]; rfl
  rw [drop_cons la, posV] at hp
  have hcall := hcmp l[i] (List.getElem_mem la)
  generalize l[i] = x at *
  have w : IntKind.i64.wrap ((i : Int) + 1) = ((i + 1 : Nat) : Int) := by rw [i64_in (by omega) (by omega)]; omega
  refine lx_step (wx_seq (wx_seq ?_))
  by_cases hb : cmpV x v < 0
  ·rw [if_pos hb] at hp
   refine wx_regionT fun K hK => ?_
   simp only [evW, evX, evM, evN, evC, far, ↓reduceIte, Nat.reduceEqDiff, Nat.reduceAdd, Nat.reduceLeDiff, reduceCtorEq, gvalRows_length, hy, h0, Int.toNat_natCast, ga, row_eq, hcall, hb]
   refine hK _ _ (by rfl) ?_; clear hK K
   refine wx_cond true rfl (fun _ => wx_skip ?_) (fun h => by cases h)
   refine wx_block ?_
   refine wx_region fun K hK => ?_
   simp only [evW, evX, evM, evN, ↓reduceIte, Nat.reduceEqDiff, reduceCtorEq, w]
   refine hK _ _ ?_; clear hK K
   refine ⟨_, ?_, ihn (i + 1) (by omega) (by omega)⟩
   simp only [evH, evX, evN, ↓reduceIte, Nat.reduceEqDiff, Nat.reduceLT, reduceCtorEq]
  ·rw [if_neg hb, Nat.add_zero] at hp
   refine wx_regionT fun K hK => ?_
   simp only [evW, evX, evM, evN, evC, far, ↓reduceIte, Nat.reduceEqDiff, Nat.reduceAdd, Nat.reduceLeDiff, reduceCtorEq, gvalRows_length, hy, h0, Int.toNat_natCast, ga, row_eq, hcall, hb]
   refine hK _ _ (by rfl) ?_; clear hK K
   refine wx_cond false rfl (fun h => by cases h) (fun _ => wx_exit ?_)
   exact hx _ rfl rfl (by rw [hp]; rfl)
theorem roomy_in {n : Nat} (h : n ≤ 2000) : roomy n 56 = true := by unfold roomy; exact decide_eq_true (by omega)
def insTail : CCode := match c117.body with
 | .seq _ (.seq _ (.seq _ (.seq _ c))) => c
 | _ => .skip
theorem ins_tail {v : GVal} {l : List GVal} (hl : l.length ≤ 1000) {tm : List (Nat × V)} (t0 : look tm 0 = .d (.l 4 (gvalRows l))) (t3 : look tm 3 = .ptr 0 0) (t5 : look tm 5 = .d (.i .i64 (posV v l : Nat))) {T : List GVal} (hT : T = l.take (posV v l) ++ [v] ++ l.drop (posV v l)) :
  WX E insTail ⟨tm, [vbox v]⟩ (fun ex s => (ex = .normal ∨ ex = .ret) ∧ result 0 s c117.rets = some (.d (.l 4 (gvalRows T)), [])) := by
 have hle := posV_le v l
 have h0 : (0 : Int) ≤ (posV v l : Nat) := by omega
 have hle' : ((posV v l : Nat) : Int) ≤ l.length := by omega
 have hlen : (l.take (posV v l)).length = posV v l := by simp; omega
 have hlen2 : (l.drop (posV v l)).length = l.length - posV v l := by simp
 have r1 : roomy ((posV v l)) 56 = true := roomy_in (by omega)
 have r2 : roomy (posV v l + 1) 56 = true := roomy_in (by omega)
 have r3 : roomy (posV v l + 1 + (l.length - posV v l)) 56 = true := roomy_in (by omega)
 refine wx_seq (wx_regionT fun K hK => ?_)
 simp only [evW, evX, evM, evN, ↓reduceIte, Nat.reduceEqDiff, Nat.reduceAdd, Nat.reduceLT, reduceCtorEq, t0, t3, t5, gvalRows_length, h0, hle', Int.toNat_natCast, gvalRows_take, gvalRows_drop, hlen, hlen2, List.length_append, r1, r2, r3, List.take_length]
 refine hK _ _ (by rfl) ?_; clear hK K
 refine wx_ret ⟨.inr rfl, ?_⟩
 simp only [evR, evX, evC, evN, ↓reduceIte, far, c117]
 rw [hT]
 simp [gvalRows_eq, row_eq]
theorem refIns_ok (h117 : E 117 = some (.code c117)) {v : GVal} {l : List GVal} (hcmp : ∀ x ∈ l, lcall E 115 [x.arg, v.arg] [] = some (.d (.i .i64 (cmpV x v)), [])) (hl : l.length ≤ 1000) :
  lcall E 117 [.d (.l 4 (gvalRows l)), v.arg] [] = some (.d (.l 4 (gvalRows (insV l v))), []) := by
 refine call_wx h117 ?_
 refine wx_seq (wx_region fun K hK => ?_)
 simp only [evW, evX, evM, evN, ↓reduceIte, Nat.reduceAdd, reduceCtorEq]
 refine hK _ _ ?_; clear hK K
 refine wx_seq (wx_region fun K hK => ?_)
 simp only [evW, evX, evM, evN]
 refine hK _ _ ?_; clear hK K
 refine wx_seq (wx_block (wx_loop ?_))
 simp only [evH, evX, evN, ↓reduceIte, Nat.reduceEqDiff, reduceCtorEq]
 refine ins_loop hcmp hl (fun tm t0 t3 t5 => ?_) l.length 0 (by omega) (by simp)
 have hle := posV_le v l
 have h0 : (0 : Int) ≤ (posV v l : Nat) := by omega
 have hle' : ((posV v l : Nat) : Int) ≤ l.length := by omega
 have r1 : roomy ((posV v l)) 56 = true := roomy_in (by omega)
 have r2 : roomy (posV v l + 1) 56 = true := roomy_in (by omega)
 have r3 : roomy (posV v l + 1 + (l.length - posV v l)) 56 = true := roomy_in (by omega)
 have r4 : roomy l.length 56 = true := roomy_in (by omega)
 refine wx_seq (wx_seq ?_)
 by_cases hlt : posV v l < l.length
 ·have ga : (gvalRows l)[posV v l]? = some (GVal.row l[posV v l]) := by rw [gvalRows_get, List.getElem?_eq_getElem hlt]; rfl
  have hh : insV l v = if cmpV l[posV v l] v = 0 then l else l.take (posV v l) ++ [v] ++ l.drop (posV v l) := by unfold insV; rw [List.getElem?_eq_getElem hlt]
  have hcall := hcmp l[posV v l] (List.getElem_mem hlt)
  have hy : ((posV v l : Nat) : Int) < l.length := by omega
  generalize l[posV v l] = x at *
  by_cases hb : cmpV x v = 0
  ·rw [if_pos hb] at hh
   refine wx_regionT fun K hK => ?_
   simp only [evW, evX, evM, evN, evC, far, ↓reduceIte, Nat.reduceEqDiff, Nat.reduceAdd, Nat.reduceLeDiff, reduceCtorEq, t0, t3, t5, gvalRows_length, hy, h0, Int.toNat_natCast, ga, row_eq, hcall, hb]
   refine hK _ _ (by rfl) ?_; clear hK K
   refine wx_cond true rfl (fun _ => ?_) (fun h => by cases h)
   refine wx_seq (wx_region fun K hK => ?_)
   simp only [evW, evX, evM, evN, ↓reduceIte, Nat.reduceEqDiff, Nat.reduceAdd, reduceCtorEq, t0, gvalRows_length, r4]
   refine hK _ _ ?_; clear hK K
   refine wx_ret ⟨.inr rfl, ?_⟩
   simp only [evR, evX, evC, evN, ↓reduceIte, far, c117, hh]
  ·rw [if_neg hb] at hh
   refine wx_regionT fun K hK => ?_
   simp only [evW, evX, evM, evN, evC, far, ↓reduceIte, Nat.reduceEqDiff, Nat.reduceAdd, Nat.reduceLeDiff, reduceCtorEq, t0, t3, t5, gvalRows_length, hy, h0, Int.toNat_natCast, ga, row_eq, hcall, hb]
   refine hK _ _ (by rfl) ?_; clear hK K
   refine wx_cond false rfl (fun h => by cases h) (fun _ => wx_skip ?_)
   refine ins_tail hl ?_ ?_ ?_ hh <;> first | exact t0 | exact t3 | exact t5
 ·have hy : ¬ (((posV v l : Nat) : Int) < l.length) := by omega
  have hh : insV l v = l.take (posV v l) ++ [v] ++ l.drop (posV v l) := by unfold insV; rw [List.getElem?_eq_none (by omega)]
  refine wx_regionT fun K hK => ?_
  simp only [evW, evX, evM, evN, ↓reduceIte, Nat.reduceEqDiff, reduceCtorEq, t0, t5, gvalRows_length, hy]
  refine hK _ _ (by rfl) ?_; clear hK K
  refine wx_cond false rfl (fun h => by cases h) (fun _ => wx_skip ?_)
  refine ins_tail hl ?_ ?_ ?_ hh <;> first | exact t0 | exact t3 | exact t5
end Ab.Vx
