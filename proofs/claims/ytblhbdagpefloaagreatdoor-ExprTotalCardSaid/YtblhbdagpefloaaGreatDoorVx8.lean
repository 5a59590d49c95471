/-
 Values that choices make: GVal.
-/
import Derived.Test.YtblhbdagpefloaaGreatDoorVx7
namespace Ab.Vx
open Go
set_option linter.unusedVariables false
set_option linter.unusedSimpArgs false
set_option maxRecDepth 100000
variable {E : Nat → Option Fn}
theorem genOk_mk {m : Nat} {k i : Int} {s : List UInt8} {l : List GVal} (hz : 1 + s.length / 16 + szL l ≤ m) (hk : k ≠ 7) (hl : l.length ≤ 3) (h : mayV (.mk k i s l) = true) (hs : ∀ x ∈ l, Small x) : GenOk m (.mk k i s l) :=
 ⟨by rw [szN]; exact hz, small_mk (by omega) hs, hl, h, hk⟩
abbrev zbox : Option Obj := some (.box [.d (.i .i64 0), .d (.i .i64 0), .d (.s []), .nil 4])
abbrev valQ (m : Nat) (l : List UInt8) : Ex → St → Prop := fun ex s => (ex = .normal ∨ ex = .ret) ∧ ∃ r, result 1 s c109.rets = some r ∧ ∃ v n', r = (GVal.arg v, [pbox l n']) ∧ n' ≤ l.length ∧ GenOk m v
def elsOf : CCode → CCode
 | .seq _ (.cond _ _ e) => e
 | _ => .skip
def thnOf : CCode → CCode
 | .seq _ (.cond _ t _) => t
 | _ => .skip
def valB0 : CCode := match c109.body with
 | .seq _ (.seq (.seq _ (.block _ c)) _) => c
 | _ => .skip
def valStr : CCode := thnOf (elsOf (elsOf valB0))
def valList : CCode := thnOf (elsOf (elsOf (elsOf valB0)))
def valSet : CCode := thnOf (elsOf (elsOf (elsOf (elsOf valB0))))
def valEnv : CCode := match c109.body with
 | .seq _ (.seq _ c) => c
 | _ => .skip
theorem val_str {m : Nat} (hm : 3 ≤ m) {l : List UInt8} (hnum : NumC E l) {n : Nat} (hn : n ≤ l.length) {tm : List (Nat × V)} (t0 : look tm 0 = .ptr 0 0) (t4 : look tm 4 = .ptr 1 0) {Q : Ex → St → Prop} (hQ : ∀ s, valQ m l .ret s → Q .ret s) : WX E valStr ⟨tm, [pbox l n, zbox, none, none, none, none]⟩ Q := by
 obtain ⟨j, n2, hc2, j0, j1, hn2⟩ := hnum n hn 5 (by omega)
 obtain ⟨i, rfl⟩ : ∃ i : Nat, j = i := ⟨j.toNat, by omega⟩
 have ht : ∃ x, ([[.s []], [.s [97]], [.s [98]], [.s [97, 98]], [.s [97, 45, 116, 101, 120, 116, 45, 111, 102, 45, 50, 49, 45, 98, 121, 116, 101, 115, 45, 120, 120]]] : List (List D))[i]? = some [.s x] ∧ x.length ≤ 21 := by
  have : i = 0 ∨ i = 1 ∨ i = 2 ∨ i = 3 ∨ i = 4 := by omega
  rcases this with rfl | rfl | rfl | rfl | rfl <;> exact ⟨_, rfl, by decide⟩
 obtain ⟨x, hx, hxl⟩ := ht
 refine wx_seq (wx_region fun K hK => ?_)
 simp only [evW, evX, evM, evN, evC, far, ↓reduceIte, Nat.reduceEqDiff, Nat.reduceAdd, Nat.reduceLeDiff, Nat.reduceLT, reduceCtorEq, t0, t4, hc2, j0, Int.toNat_natCast, hx]
 refine hK _ _ ?_; clear hK K
 refine wx_ret (hQ _ ⟨.inr rfl, _, ?_, .mk 3 0 x [], n2, rfl, hn2, genOk_mk (by rw [szL]; omega) (by decide) (by simp) (by simp [mayV, numOk, rowOk, mayL]) (by simp)⟩)
 simp only [evR, evX, evC, evN, ↓reduceIte, Nat.reduceEqDiff, Nat.reduceAdd, far, c109, t4, GVal.arg, GVal.kind, GVal.i, GVal.s, GVal.l, gvalRows]
theorem val_list {m q : Nat} (hm : 1 + 3 * q ≤ m) {l : List UInt8} {deep : Nat} (hsome : SomeC E l q deep) {n : Nat} (hn : n ≤ l.length) {tm : List (Nat × V)} (t0 : look tm 0 = .ptr 0 0) (t1 : look tm 1 = .d (.i .i64 deep)) (t4 : look tm 4 = .ptr 1 0) {Q : Ex → St → Prop} (hQ : ∀ s, valQ m l .ret s → Q .ret s) : WX E valList ⟨tm, [pbox l n, zbox, none, none, none, none]⟩ Q := by
 obtain ⟨vs, n2, hc, hn2, hlen, hv⟩ := hsome n hn
 refine wx_seq (wx_region fun K hK => ?_)
 simp only [evW, evX, evM, evN, evC, far, ↓reduceIte, Nat.reduceEqDiff, Nat.reduceAdd, Nat.reduceLeDiff, Nat.reduceLT, t0, t1, t4, hc]
 refine hK _ _ ?_; clear hK K
 refine wx_ret (hQ _ ⟨.inr rfl, _, ?_, .mk 4 0 [] vs, n2, rfl, hn2, genOk_mk (by have := szL_of hv; have := Nat.mul_le_mul_right q hlen; simp only [List.length_nil]; omega) (by decide) hlen (by simp [mayV, numOk, rowOk, mayL_of hv]) (fun x hx => (hv x hx).small)⟩)
 simp only [evR, evX, evC, evN, ↓reduceIte, Nat.reduceEqDiff, Nat.reduceAdd, far, c109, t4, GVal.arg, GVal.kind, GVal.i, GVal.s, GVal.l]
def InsC (E : Nat → Option Fn) : Prop := ∀ (ws : List GVal) (v : GVal), ws.length ≤ 1000 → (∀ x ∈ ws, Small x) → Small v → lcall E 117 [.d (.l 4 (gvalRows ws)), v.arg] [] = some (.d (.l 4 (gvalRows (insV ws v))), [])
def setLoop : CCode := match valSet with
 | .seq _ (.seq _ (.seq (.seq _ (.block _ (.loop _ c))) _)) => c
 | _ => .skip
abbrev lbox (k : Int) (ws : List GVal) : Option Obj := some (.box [.d (.i .i64 k), .d (.i .i64 0), .d (.s []), .d (.l 4 (gvalRows ws))])
theorem set_loop {q : Nat} (hins : InsC E) {l : List UInt8} {n : Nat} {vs : List GVal} (hvl : vs.length ≤ 3) (hv : ∀ x ∈ vs, GenOk q x) {Q : Ex → St → Prop}
  (hx : ∀ tm ws, look tm 4 = .ptr 1 0 → look tm 6 = .ptr 6 0 → ws.length ≤ 3 → (∀ x ∈ ws, GenOk q x) → chainB ltV ws = true → Q (.exit 1) ⟨tm, [pbox l n, zbox, none, none, none, none, lbox 5 ws, none, none, none, none]⟩) :
  ∀ (m i : Nat) (ws : List GVal), i + m = vs.length → ws.length ≤ i → (∀ x ∈ ws, GenOk q x) → chainB ltV ws = true →
   LX E setLoop ⟨[4, 6, 7, 8], [], [], [], [(6, 3)], true⟩ 11 ⟨[(4, .ptr 1 0), (6, .ptr 6 0), (7, .d (.l 4 (gvalRows vs))), (8, .d (.i .i64 i))], [pbox l n, zbox, none, none, none, none, lbox 5 ws, none, none, none, none]⟩ Q := by
 intro m
 induction m with
 | zero =>
  intro i ws hi hw hok hch
  have hn : ¬ ((i : Int) < vs.length) := by omega
  refine lx_step (wx_seq (wx_seq ?_))
  refine wx_region fun K hK => ?_
  simp only [evW, evX, evM, evN, ↓reduceIte, Nat.reduceEqDiff, Nat.reduceAdd, gvalRows_length, hn]
  refine hK _ _ ?_; clear hK K
  refine wx_cond false rfl (fun h => by cases h) (fun _ => wx_exit ?_)
  exact hx _ ws rfl rfl (by omega) hok hch
 | succ m ih =>
  intro i ws hi hw hok hch
  have hy : (i : Int) < vs.length := by omega
  have la : i < vs.length := by omega
  have h0 : (0 : Int) ≤ i := by omega
  have ga : (gvalRows vs)[i]? = some (GVal.row vs[i]) := by rw [gvalRows_get, List.getElem?_eq_getElem la]; rfl
  have hvi := hv vs[i] (List.getElem_mem la)
  have hcall := hins ws vs[i] (by omega) (fun x hx => (hok x hx).small) hvi.small
  generalize vs[i] = x at *
  have w : IntKind.i64.wrap ((i : Int) + 1) = ((i + 1 : Nat) : Int) := by rw [i64_in (by omega) (by omega)]; omega
  refine lx_step (wx_seq (wx_seq ?_))
  refine wx_region fun K hK => ?_
  simp only [evW, evX, evM, evN, ↓reduceIte, Nat.reduceEqDiff, Nat.reduceAdd, gvalRows_length, hy]
  refine hK _ _ ?_; clear hK K
  refine wx_cond true rfl (fun _ => wx_skip ?_) (fun h => by cases h)
  refine wx_seq (wx_block ?_)
  refine wx_regionT fun K hK => ?_
  simp only [evW, evX, evM, evN, evC, far, ↓reduceIte, Nat.reduceEqDiff, Nat.reduceAdd, Nat.reduceLeDiff, h0, Int.toNat_natCast, ga, row_eq, hcall]
  refine hK _ _ (by rfl) ?_; clear hK K
  refine wx_region fun K hK => ?_
  simp only [evW, evX, evM, evN, ↓reduceIte, Nat.reduceEqDiff, Nat.reduceAdd, w]
  refine hK _ _ ?_; clear hK K
  refine ⟨_, ?_, ih (i + 1) (insV ws x) (by omega) (by have := insV_length ws x; omega) (fun y hy => ?_) (insV_chain hch)⟩
  ·simp only [evH, evX, evN, ↓reduceIte, Nat.reduceEqDiff, Nat.reduceLT]
  ·rcases insV_mem hy with h | h
   ·exact hok y h
   ·rw [h]; exact hvi
theorem val_set {m q : Nat} (hm : 1 + 3 * q ≤ m) (hins : InsC E) {l : List UInt8} {deep : Nat} (hsome : SomeC E l q deep) {n : Nat} (hn : n ≤ l.length) {tm : List (Nat × V)} (t0 : look tm 0 = .ptr 0 0) (t1 : look tm 1 = .d (.i .i64 deep)) (t4 : look tm 4 = .ptr 1 0) {Q : Ex → St → Prop} (hQ : ∀ s, valQ m l .ret s → Q .ret s) : WX E valSet ⟨tm, [pbox l n, zbox, none, none, none, none]⟩ Q := by
 obtain ⟨vs, n2, hc, hn2, hlen, hv⟩ := hsome n hn
 refine wx_seq (wx_region fun K hK => ?_)
 simp only [evW, evX, evM, evN, ↓reduceIte, Nat.reduceEqDiff, Nat.reduceAdd, Nat.reduceLeDiff]
 refine hK _ _ ?_; clear hK K
 refine wx_seq (wx_region fun K hK => ?_)
 simp only [evW, evX, evM, evN, evC, far, ↓reduceIte, Nat.reduceEqDiff, Nat.reduceAdd, Nat.reduceLeDiff, Nat.reduceLT, reduceCtorEq, t0, t1, hc]
 refine hK _ _ ?_; clear hK K
 refine wx_seq (wx_seq ?_)
 refine wx_region fun K hK => ?_
 simp only [evW, evX, evM, evN, Nat.reduceAdd]
 refine hK _ _ ?_; clear hK K
 refine wx_block (wx_loop ?_)
 simp only [evH, evX, evN, ↓reduceIte, Nat.reduceEqDiff, Nat.reduceAdd, t4]
 refine set_loop hins hlen hv (fun tm ws t4 t6 hl hok hch => ?_) vs.length 0 [] (by omega) (by simp) (by simp) rfl
 refine wx_seq (wx_region fun K hK => ?_)
 simp only [evW, evX, evM, evN, ↓reduceIte, Nat.reduceEqDiff, Nat.reduceAdd, Nat.reduceLeDiff, t4, t6]
 refine hK _ _ ?_; clear hK K
 refine wx_ret (hQ _ ⟨.inr rfl, _, ?_, .mk 5 0 [] ws, n2, rfl, hn2, genOk_mk (by have := szL_of hok; have := Nat.mul_le_mul_right q hl; simp only [List.length_nil]; omega) (by decide) hl (by simp [mayV, numOk, rowOk, mayL_of hok, hch]) (fun x hx => (hok x hx).small)⟩)
 simp only [evR, evX, evC, evN, ↓reduceIte, Nat.reduceEqDiff, Nat.reduceAdd, far, c109, t4, GVal.arg, GVal.kind, GVal.i, GVal.s, GVal.l]
def FindC (E : Nat → Option Fn) : Prop := ∀ (ws : List GVal) (k : List UInt8), ws.length ≤ 1000 → lcall E 120 [.d (.l 4 (gvalRows ws)), .d (.s k)] [] = some (.tup [.d (.i .i64 (posK k ws : Nat)), .d (.b (hasK k ws))], [])
def envLoop : CCode := match valEnv with
 | .seq _ (.seq (.seq _ (.block _ (.loop _ c))) _) => c
 | _ => .skip
structure EnvInv (m : Nat) (ws : List GVal) : Prop where
 ok : ∀ x ∈ ws, GenOk m x
 pair : ∀ x ∈ ws, pairV x = true
 chain : chainB ltK ws = true
theorem pair_len {x : GVal} (h : pairV x = true) : x.l.length = 2 := by
 unfold pairV at h
 simp only [Bool.and_eq_true] at h
 have := h.2
 split at this
 ·rename_i hl; rw [hl]; rfl
 ·cases this
theorem env_ins {m : Nat} {ws : List GVal} (h : EnvInv m ws) {k : List UInt8} (hk : hasK k ws = false) {p : GVal} (hp : GenOk m p) (hpp : pairV p = true) (hkey : keyV p = k) : EnvInv m (ws.take (posK k ws) ++ [p] ++ ws.drop (posK k ws)) := by
 have mem : ∀ x, x ∈ ws.take (posK k ws) ++ [p] ++ ws.drop (posK k ws) → x ∈ ws ∨ x = p := fun x h => by
  simp only [List.mem_append, List.mem_singleton] at h
  rcases h with (h | h) | h
  ·exact .inl (List.mem_of_mem_take h)
  ·exact .inr h
  ·exact .inl (List.mem_of_mem_drop h)
 refine ⟨fun x hx => ?_, fun x hx => ?_, ?_⟩
 ·rcases mem x hx with h1 | rfl
  ·exact h.ok x h1
  ·exact hp
 ·rcases mem x hx with h1 | rfl
  ·exact h.pair x h1
  ·exact hpp
 ·refine chain_ins (pos := posK k) rfl (fun x r => ?_) ws h.chain (fun x hx => ?_)
  ·simp only [posK, ltK, hkey]
  ·have hge : ∀ (l : List GVal) x, l[posK k l]? = some x → bytesLess (keyV x) k = false := by
    intro l
    induction l with
    | nil => intro x hx; simp at hx
    | cons y r ih =>
     intro x hx
     simp only [posK] at hx
     split at hx
     ·exact ih x (by simpa using hx)
     ·rename_i hb; simp at hx; subst hx; simpa using hb
   have h1 := hge ws x hx
   have h2 : keyV x ≠ k := fun e => by
    unfold hasK at hk
    rw [hx] at hk
    simp only [e, decide_true, Bool.and_true, decide_eq_false_iff_not] at hk
    have := pair_len (h.pair x (List.mem_of_getElem? hx))
    omega
   simp only [ltK, hkey]
   rcases bl_total k (keyV x) with h3 | h3 | h3
   ·exact h3
   ·exact absurd h3.symm h2
   ·rw [h1] at h3; cases h3
set_option maxHeartbeats 1000000 in
theorem env_loop (hfind : FindC E) {l : List UInt8} (hnum : NumC E l) {deep : Nat} (hg : GenC E l deep) {w0 : Int} (hw0 : IntKind.i64.wrap (w0 - 1) = deep) {Q : Ex → St → Prop}
  (hx : ∀ tm ws n, look tm 4 = .ptr 1 0 → look tm 9 = .ptr 6 0 → n ≤ l.length → ws.length ≤ 3 → EnvInv (2 + bnd deep) ws → Q (.exit 3) ⟨tm, [pbox l n, zbox, none, none, none, none, lbox 6 ws, none, none, none, none]⟩) :
  ∀ (i : Nat) (ws : List GVal) (n : Nat), i + ws.length ≤ 3 → n ≤ l.length → EnvInv (2 + bnd deep) ws →
   LX E envLoop ⟨[0, 1, 4, 9, 10], [], [], [], [(9, 3)], true⟩ 11 ⟨[(0, .ptr 0 0), (1, .d (.i .i64 w0)), (4, .ptr 1 0), (9, .ptr 6 0), (10, .d (.i .i64 i))], [pbox l n, zbox, none, none, none, none, lbox 6 ws, none, none, none, none]⟩ Q := by
 intro i
 induction i with
 | zero =>
  intro ws n hi hn hinv
  have h0 : ¬ ((0 : Int) < ((0 : Nat) : Int)) := by omega
  refine lx_step (wx_seq (wx_seq ?_))
  refine wx_region fun K hK => ?_
  simp only [evW, evX, evM, evN, ↓reduceIte, Nat.reduceEqDiff, Nat.reduceAdd, reduceCtorEq, h0]
  refine hK _ _ ?_; clear hK K
  refine wx_cond false rfl (fun h => by cases h) (fun _ => wx_exit ?_)
  exact hx _ ws n rfl rfl hn (by omega) hinv
 | succ i ih =>
  intro ws n hi hn hinv
  have h0 : (0 : Int) < ((i + 1 : Nat) : Int) := by omega
  have w1 : IntKind.i64.wrap (((i + 1 : Nat) : Int) - 1) = (i : Int) := by rw [i64_in (by omega) (by omega)]; omega
  obtain ⟨j, n1, hc, j0, j1, hn1⟩ := hnum n hn 3 (by omega)
  obtain ⟨q, rfl⟩ : ∃ i : Nat, j = i := ⟨j.toNat, by omega⟩
  have ht : ∃ x, ([[.s [97]], [.s [98]], [.s [99]]] : List (List D))[q]? = some [.s x] ∧ x.length ≤ 1 := by
   have : q = 0 ∨ q = 1 ∨ q = 2 := by omega
   rcases this with rfl | rfl | rfl <;> exact ⟨_, rfl, by decide⟩
  obtain ⟨x, hx', hxl⟩ := ht
  have hf := hfind ws x (by omega)
  refine lx_step (wx_seq (wx_seq ?_))
  refine wx_region fun K hK => ?_
  simp only [evW, evX, evM, evN, ↓reduceIte, Nat.reduceEqDiff, Nat.reduceAdd, reduceCtorEq, h0]
  refine hK _ _ ?_; clear hK K
  refine wx_cond true rfl (fun _ => wx_skip ?_) (fun h => by cases h)
  refine wx_seq (wx_block ?_)
  refine wx_seq (wx_region fun K hK => ?_)
  simp only [evW, evX, evM, evN, evC, far, ↓reduceIte, Nat.reduceEqDiff, Nat.reduceAdd, Nat.reduceLeDiff, Nat.reduceLT, reduceCtorEq, hc, j0, Int.toNat_natCast, hx']
  refine hK _ _ ?_; clear hK K
  refine wx_seq (wx_region fun K hK => ?_)
  simp only [evW, evX, evM, evN, evC, far, ↓reduceIte, Nat.reduceEqDiff, Nat.reduceAdd, Nat.reduceLeDiff, reduceCtorEq, hf]
  refine hK _ _ ?_; clear hK K
  cases hk : hasK x ws with
  | true =>
   refine wx_seq (wx_region fun K hK => ?_)
   simp only [evW, evX, evM, evN, ↓reduceIte, Nat.reduceAdd]
   refine hK _ _ ?_; clear hK K
   refine wx_cond false rfl (fun h => by cases h) (fun _ => wx_skip ?_)
   refine wx_region fun K hK => ?_
   simp only [evW, evX, evM, evN, ↓reduceIte, Nat.reduceEqDiff, Nat.reduceAdd, reduceCtorEq, w1]
   refine hK _ _ ?_; clear hK K
   refine ⟨_, ?_, ih ws n1 (by omega) hn1 hinv⟩
   simp only [evH, evX, evN, ↓reduceIte, Nat.reduceEqDiff, Nat.reduceLT, reduceCtorEq]
  | false =>
   obtain ⟨v, n2, hcv, hn2, hok⟩ := hg n1 hn1
   have hle := posK_le x ws
   have p0 : (0 : Int) ≤ (posK x ws : Nat) := by omega
   have hle' : ((posK x ws : Nat) : Int) ≤ ws.length := by omega
   have hlen : (ws.take (posK x ws)).length = posK x ws := by simp; omega
   have hlen2 : (ws.drop (posK x ws)).length = ws.length - posK x ws := by simp
   have r1 : roomy ((posK x ws)) 56 = true := roomy_in (by omega)
   have r2 : roomy (posK x ws + 1) 56 = true := roomy_in (by omega)
   have r3 : roomy (posK x ws + 1 + (ws.length - posK x ws)) 56 = true := roomy_in (by omega)
   have hg7 : decide (v.kind = 7) = false := by simp [hok.good]
   have hk3 : (GVal.mk 3 0 x []).kind = 3 := rfl
   let p : GVal := .mk 4 0 [] [.mk 3 0 x [], v]
   have hp : GenOk (2 + bnd deep) p := genOk_mk (by have := hok.size; simp only [szL, szN, List.length_nil]; omega) (by decide) (by simp) (by simp [mayV, mayL, numOk, rowOk, hok.may, hg7, hk3]) (fun y hy => by
    simp only [List.mem_cons, List.not_mem_nil, or_false] at hy
    rcases hy with rfl | rfl
    ·exact small_mk (by simp) (by simp)
    ·exact hok.small)
   have hpp : pairV p = true := by simp [pairV, p, GVal.kind, GVal.l]
   have hkey : keyV p = x := by simp [keyV, p, GVal.l, GVal.s]
   refine wx_seq (wx_region fun K hK => ?_)
   simp only [evW, evX, evM, evN, ↓reduceIte, Nat.reduceAdd]
   refine hK _ _ ?_; clear hK K
   refine wx_cond true rfl (fun _ => ?_) (fun h => by cases h)
   refine wx_seq (wx_regionT fun K hK => ?_)
   simp only [evW, evX, evM, evN, evC, far, ↓reduceIte, Nat.reduceEqDiff, Nat.reduceAdd, Nat.reduceLeDiff, Nat.reduceLT, reduceCtorEq, hw0, hcv]
   refine hK _ _ (by rfl) ?_; clear hK K
   refine wx_regionT fun K hK => ?_
   simp only [evW, evX, evM, evN, ↓reduceIte, Nat.reduceEqDiff, Nat.reduceAdd, Nat.reduceLeDiff, Nat.reduceLT, reduceCtorEq, gvalRows_length, p0, hle', Int.toNat_natCast, gvalRows_take, gvalRows_drop, hlen, hlen2, List.length_append, r1, r2, r3, List.take_length]
   refine hK _ _ (by rfl) ?_; clear hK K
   have hrow : gvalRows (ws.take (posK x ws)) ++ [[.i .i64 4, .i .i64 0, .s [], .l 4 [[.i .i64 3, .i .i64 0, .s x, .l 4 []], [.i .i64 v.kind, .i .i64 v.i, .s v.s, .l 4 (gvalRows v.l)]]]] ++ gvalRows (ws.drop (posK x ws)) = gvalRows (ws.take (posK x ws) ++ [p] ++ ws.drop (posK x ws)) := by
    simp [gvalRows_eq, p, GVal.row, gvalRows, row_eq]
   refine wx_region fun K hK => ?_
   simp only [evW, evX, evM, evN, ↓reduceIte, Nat.reduceEqDiff, Nat.reduceAdd, reduceCtorEq, w1, hrow]
   refine hK _ _ ?_; clear hK K
   refine ⟨_, ?_, ih (ws.take (posK x ws) ++ [p] ++ ws.drop (posK x ws)) n2 (by simp; omega) hn2 (env_ins hinv hk hp hpp hkey)⟩
   simp only [evH, evX, evN, ↓reduceIte, Nat.reduceEqDiff, Nat.reduceLT, reduceCtorEq]
theorem val_env {m : Nat} {deep : Nat} (hm : 1 + 3 * (2 + bnd deep) ≤ m) (hfind : FindC E) {l : List UInt8} (hnum : NumC E l) (hg : GenC E l deep) {w0 : Int} (hw0 : IntKind.i64.wrap (w0 - 1) = deep) {n : Nat} (hn : n ≤ l.length) {tm : List (Nat × V)} (t0 : look tm 0 = .ptr 0 0) (t1 : look tm 1 = .d (.i .i64 w0)) (t4 : look tm 4 = .ptr 1 0) {Q : Ex → St → Prop} (hQ : ∀ s, valQ m l .ret s → Q .ret s) :
  WX E valEnv ⟨tm, [pbox l n, zbox, none, none, none, none]⟩ Q := by
 obtain ⟨k, n1, hc, k0, k1, hn1⟩ := hnum n hn 3 (by omega)
 obtain ⟨q, rfl⟩ : ∃ i : Nat, k = i := ⟨k.toNat, by omega⟩
 refine wx_seq (wx_region fun K hK => ?_)
 simp only [evW, evX, evM, evN, ↓reduceIte, Nat.reduceEqDiff, Nat.reduceAdd, Nat.reduceLeDiff]
 refine hK _ _ ?_; clear hK K
 refine wx_seq (wx_seq ?_)
 refine wx_region fun K hK => ?_
 simp only [evW, evX, evM, evN, evC, far, ↓reduceIte, Nat.reduceAdd, Nat.reduceLeDiff, Nat.reduceLT, reduceCtorEq, t0, hc]
 refine hK _ _ ?_; clear hK K
 refine wx_block (wx_loop ?_)
 simp only [evH, evX, evN, ↓reduceIte, Nat.reduceEqDiff, Nat.reduceAdd, reduceCtorEq, t0, t1, t4]
 refine env_loop hfind hnum hg hw0 (fun tm ws n2 t4 t9 hn2 hl hinv => ?_) q [] n1 (by simp; omega) hn1 ⟨by simp, by simp, rfl⟩
 have hall : ws.all pairV = true := List.all_eq_true.2 hinv.pair
 refine wx_seq (wx_region fun K hK => ?_)
 simp only [evW, evX, evM, evN, ↓reduceIte, Nat.reduceEqDiff, Nat.reduceAdd, Nat.reduceLeDiff, t4, t9]
 refine hK _ _ ?_; clear hK K
 refine wx_ret (hQ _ ⟨.inr rfl, _, ?_, .mk 6 0 [] ws, n2, rfl, hn2, genOk_mk (by have := szL_of hinv.ok; have := Nat.mul_le_mul_right (2 + bnd deep) hl; simp only [List.length_nil]; omega) (by decide) hl (by simp [mayV, numOk, rowOk, mayL_of hinv.ok, hinv.chain]; exact hinv.pair) (fun x hx => (hinv.ok x hx).small)⟩)
 simp only [evR, evX, evC, evN, ↓reduceIte, Nat.reduceEqDiff, Nat.reduceAdd, far, c109, t4, GVal.arg, GVal.kind, GVal.i, GVal.s, GVal.l]
set_option maxHeartbeats 1000000 in
theorem val_ok (h109 : E 109 = some (.code c109)) (hins : InsC E) (hfind : FindC E) {l : List UInt8} (hnum : NumC E l) {deep : Nat} (hd : deep ≤ 100) (hsome : ∀ d, deep = d + 1 → SomeC E l (bnd d) deep) (hgen : ∀ d, deep = d + 1 → GenC E l d) : GenC E l deep := by
 intro n hn
 obtain ⟨k, n1, hc, k0, k1, hn1⟩ := hnum n hn 9 (by omega)
 have hb3 : 3 ≤ bnd deep := by cases deep <;> simp only [bnd] <;> omega
 have : ∃ r, lcall E 109 [.ptr 0 0, .d (.i .i64 deep)] [pbox l n] = some r ∧ ∃ v n', r = (GVal.arg v, [pbox l n']) ∧ n' ≤ l.length ∧ GenOk (bnd deep) v := by
  refine call_wxP h109 ?_
  refine wx_seq (wx_region fun K hK => ?_)
  simp only [evW, evX, evM, evN, Nat.reduceAdd]
  refine hK _ _ ?_; clear hK K
  refine wx_seq (wx_seq ?_)
  refine wx_region fun K hK => ?_
  simp only [evW, evX, evM, evN, evC, far, ↓reduceIte, Nat.reduceAdd, Nat.reduceLeDiff, Nat.reduceLT, reduceCtorEq, hc]
  refine hK _ _ ?_; clear hK K
  refine wx_block ?_
  by_cases hk3 : k < 3
  ·refine wx_seq (wx_region fun K hK => ?_)
   simp only [evW, evX, evM, evN, ↓reduceIte, Nat.reduceAdd, hk3]
   refine hK _ _ ?_; clear hK K
   refine wx_cond true rfl (fun _ => ?_) (fun h => by cases h)
   obtain ⟨j, n2, hc2, j0, j1, hn2⟩ := hnum n1 hn1 7 (by omega)
   obtain ⟨i, rfl⟩ : ∃ i : Nat, j = i := ⟨j.toNat, by omega⟩
   have ht : ∃ x, ([[.i .i64 0], [.i .i64 1], [.i .i64 2], [.i .i64 (-1)], [.i .i64 7], [.i .i64 9223372036854775807], [.i .i64 (-9223372036854775808)]] : List (List D))[i]? = some [.i .i64 x] := by
    have : i = 0 ∨ i = 1 ∨ i = 2 ∨ i = 3 ∨ i = 4 ∨ i = 5 ∨ i = 6 := by omega
    rcases this with rfl | rfl | rfl | rfl | rfl | rfl | rfl <;> exact ⟨_, rfl⟩
   obtain ⟨x, hx⟩ := ht
   refine wx_seq (wx_region fun K hK => ?_)
   simp only [evW, evX, evM, evN, evC, far, ↓reduceIte, Nat.reduceEqDiff, Nat.reduceAdd, Nat.reduceLeDiff, Nat.reduceLT, reduceCtorEq, Int.reduceNeg, hc2, j0, Int.toNat_natCast, hx]
   refine hK _ _ ?_; clear hK K
   refine wx_ret ⟨.inr rfl, _, ?_, .mk 1 x [] [], n2, rfl, hn2, genOk_mk (by simp only [szL, List.length_nil]; omega) (by decide) (by simp) (by simp [mayV, numOk, rowOk, mayL]) (by simp)⟩
   simp only [evR, evX, evC, evN, ↓reduceIte, Nat.reduceEqDiff, Nat.reduceAdd, far, c109, GVal.arg, GVal.kind, GVal.i, GVal.s, GVal.l, gvalRows]
  ·refine wx_seq (wx_region fun K hK => ?_)
   simp only [evW, evX, evM, evN, ↓reduceIte, Nat.reduceAdd, hk3]
   refine hK _ _ ?_; clear hK K
   refine wx_cond false rfl (fun h => by cases h) (fun _ => ?_)
   by_cases hk4 : k = 3
   ·refine wx_seq (wx_region fun K hK => ?_)
    simp only [evW, evX, evM, evN, ↓reduceIte, Nat.reduceEqDiff, Nat.reduceAdd, eq_true hk4]
    refine hK _ _ ?_; clear hK K
    refine wx_cond true rfl (fun _ => ?_) (fun h => by cases h)
    obtain ⟨j, n2, hc2, j0, j1, hn2⟩ := hnum n1 hn1 2 (by omega)
    refine wx_seq (wx_region fun K hK => ?_)
    simp only [evW, evX, evM, evN, evC, far, ↓reduceIte, Nat.reduceEqDiff, Nat.reduceAdd, Nat.reduceLeDiff, Nat.reduceLT, reduceCtorEq, hc2]
    refine hK _ _ ?_; clear hK K
    refine wx_ret ⟨.inr rfl, _, ?_, .mk 2 j [] [], n2, rfl, hn2, genOk_mk (by simp only [szL, List.length_nil]; omega) (by decide) (by simp) (by have this : j = 0 ∨ j = 1 := (by omega); simp [mayV, numOk, rowOk, mayL, this]) (by simp)⟩
    simp only [evR, evX, evC, evN, ↓reduceIte, Nat.reduceEqDiff, Nat.reduceAdd, far, c109, GVal.arg, GVal.kind, GVal.i, GVal.s, GVal.l, gvalRows]
   ·refine wx_seq (wx_region fun K hK => ?_)
    simp only [evW, evX, evM, evN, ↓reduceIte, Nat.reduceEqDiff, Nat.reduceAdd, hk4]
    refine hK _ _ ?_; clear hK K
    refine wx_cond false rfl (fun h => by cases h) (fun _ => ?_)
    by_cases hk5 : k = 4
    ·refine wx_seq (wx_region fun K hK => ?_)
     simp only [evW, evX, evM, evN, ↓reduceIte, Nat.reduceEqDiff, Nat.reduceAdd, eq_true hk5]
     refine hK _ _ ?_; clear hK K
     refine wx_cond true rfl (fun _ => ?_) (fun h => by cases h)
     refine val_str hb3 hnum hn1 ?_ ?_ (fun s h => h) <;> rfl
    ·by_cases hd0 : (deep : Int) = 0
     ·refine wx_seq (wx_region fun K hK => ?_)
      simp only [evW, evX, evM, evN, ↓reduceIte, Nat.reduceEqDiff, Nat.reduceAdd, reduceCtorEq, hk5, eq_true hd0]
      refine hK _ _ ?_; clear hK K
      refine wx_cond true rfl (fun _ => ?_) (fun h => by cases h)
      refine val_str hb3 hnum hn1 ?_ ?_ (fun s h => h) <;> rfl
     ·refine wx_seq (wx_region fun K hK => ?_)
      simp only [evW, evX, evM, evN, ↓reduceIte, Nat.reduceEqDiff, Nat.reduceAdd, reduceCtorEq, hk5, hd0]
      refine hK _ _ ?_; clear hK K
      refine wx_cond false rfl (fun h => by cases h) (fun _ => ?_)
      by_cases hk6 : k = 5
      ·refine wx_seq (wx_region fun K hK => ?_)
       simp only [evW, evX, evM, evN, ↓reduceIte, Nat.reduceEqDiff, Nat.reduceAdd, eq_true hk6]
       refine hK _ _ ?_; clear hK K
       refine wx_cond true rfl (fun _ => ?_) (fun h => by cases h)
       obtain ⟨d', rfl⟩ : ∃ d', deep = d' + 1 := ⟨deep - 1, by omega⟩
       refine val_list (q := bnd d') (by simp only [bnd]; omega) (hsome d' rfl) hn1 ?_ ?_ ?_ (fun s h => h) <;> rfl
      ·refine wx_seq (wx_region fun K hK => ?_)
       simp only [evW, evX, evM, evN, ↓reduceIte, Nat.reduceEqDiff, Nat.reduceAdd, hk6]
       refine hK _ _ ?_; clear hK K
       refine wx_cond false rfl (fun h => by cases h) (fun _ => ?_)
       by_cases hk7 : k = 6
       ·refine wx_seq (wx_region fun K hK => ?_)
        simp only [evW, evX, evM, evN, ↓reduceIte, Nat.reduceEqDiff, Nat.reduceAdd, eq_true hk7]
        refine hK _ _ ?_; clear hK K
        refine wx_cond true rfl (fun _ => ?_) (fun h => by cases h)
        obtain ⟨d', rfl⟩ : ∃ d', deep = d' + 1 := ⟨deep - 1, by omega⟩
        refine val_set (q := bnd d') (by simp only [bnd]; omega) hins (hsome d' rfl) hn1 ?_ ?_ ?_ (fun s h => h) <;> rfl
       ·refine wx_seq (wx_region fun K hK => ?_)
        simp only [evW, evX, evM, evN, ↓reduceIte, Nat.reduceEqDiff, Nat.reduceAdd, hk7]
        refine hK _ _ ?_; clear hK K
        refine wx_cond false rfl (fun h => by cases h) (fun _ => wx_skip ?_)
        obtain ⟨d', rfl⟩ : ∃ d', deep = d' + 1 := ⟨deep - 1, by omega⟩
        have hw0 : IntKind.i64.wrap (((d' + 1 : Nat) : Int) - 1) = d' := by rw [i64_in (by omega) (by omega)]; omega
        refine val_env (deep := d') (by simp only [bnd]; omega) hfind hnum (hgen d' rfl) hw0 hn1 ?_ ?_ ?_ (fun s h => h) <;> rfl
 obtain ⟨r, h1, v, n', rfl, h2⟩ := this
 exact ⟨v, n', h1, h2⟩
theorem gen_ok (h109 : E 109 = some (.code c109)) (h124 : E 124 = some (.code c124)) (hins : InsC E) (hfind : FindC E) {l : List UInt8} (hnum : NumC E l) : ∀ (deep : Nat), deep ≤ 100 → GenC E l deep
 | 0, hd => val_ok h109 hins hfind hnum hd (fun d h => by omega) (fun d h => by omega)
 | d + 1, hd => by
  have ih := gen_ok h109 h124 hins hfind hnum d (by omega)
  exact val_ok h109 hins hfind hnum hd (fun d' h => by cases h; exact some_ok h124 hnum (by omega) ih) (fun d' h => by cases h; exact ih)
end Ab.Vx
