/-
 'reach': a round of its inner loop.
-/
import Derived.Test.YtdbjkmciidcanaaPack5
set_option linter.unusedSimpArgs false
set_option linter.unusedVariables false
set_option linter.unusedSectionVars false
set_option linter.unnecessarySimpa false
namespace Ab.Ci
open Go Ab
mutual
theorem same_D : ∀ x : D, D.same x x = true
 | .b x => by simp [D.same]
 | .i k n => by simp [D.same]
 | .s x => by simp [D.same]
 | .l sz xs => by simp [D.same, same_R xs]
 | .q xs o => by simp [D.same, same_L xs]
 | .f k a c => by simp [D.same, same_L a, same_L c]
 | .np => by simp [D.same]
 | .nf => by simp [D.same]
 | .nm => by simp [D.same]
theorem same_L : ∀ xs : List D, D.sameL xs xs = true
 | [] => by simp [D.sameL]
 | x :: xs => by simp [D.sameL, same_D x, same_L xs]
theorem same_R : ∀ xs : List (List D), D.sameR xs xs = true
 | [] => by simp [D.sameR]
 | x :: xs => by simp [D.sameR, same_L x, same_R xs]
end
theorem same_kvs {n : Nat} : ∀ kvs : List (List D × V), (∀ p ∈ kvs, simpleV n p.2 = true) → sameKvs kvs kvs = true
 | [], _ => rfl
 | (k, v) :: r, h => by
  have ih := same_kvs r fun p hp => h p (List.mem_cons_of_mem _ hp)
  have h0 := h _ List.mem_cons_self
  cases v with
  | d x => simp [sameKvs, V.same, same_D, same_L, ih]
  | map id => simp [sameKvs, V.same, same_L, ih]
  | _ => simp [simpleV] at h0
def roundC : CCode := .block 3 (.seq (.region false [
 ⟨(some 33), .ext (.t 32) 0, none, 0⟩,
 ⟨(some 8), .zero (.agg [(.d (.i .i64 0)), (.d (.i .i64 0))]), none, 0⟩,
 ⟨none, .st 2 (.t 8) (.t 33), none, 0⟩]) (
.seq (.region false [
 ⟨(some 34), .mv (.t 5), none, 0⟩,
 ⟨(some 35), .ld true 2 (.t 8), none, 0⟩,
 ⟨(some 36), .lk true [.i, .i] false (.d (.b false)) (.t 34) (.t 35), none, 0⟩,
 ⟨(some 37), .un .not (.t 36), none, 0⟩]) (
.cond (.t 37) (
.seq (.region false [
 ⟨(some 38), .mv (.t 5), none, 0⟩,
 ⟨(some 39), .ld true 2 (.t 8), none, 0⟩,
 ⟨none, .mu true [.i, .i] (.t 38) (.t 39) (.k (.d (.b true))), none, 0⟩]) (
.region false [
 ⟨(some 40), .mv (.t 6), none, 0⟩,
 ⟨(some 41), .ld true 2 (.t 8), none, 0⟩,
 ⟨(some 42), .bsa 2 1 [(.i .i64 0), (.i .i64 0)] [(0, (.t 41))], none, 0⟩,
 ⟨(some 43), .apa 2 16 (.t 40) (.t 42), none, 0⟩,
 ⟨(some 6), .mv (.t 43), none, 0⟩])) (.skip))))
section
variable (C : CallF) (n : Nat) {hq : List (Option Obj)} (hS : Simple hq.length hq) {a : Nat} (ha : a < hq.length)
include hS ha
theorem one_of {s : Pr} {l l' : List Pr} {ver ver' len len' : Nat} {rs rs' : List Pr} {p q : Pr} {v : V} {id : Nat} {kvs : List (List D × V)} (hid : (hq[id]?).join = some (.cmap kvs)) (hk : ∀ p ∈ kvs, simpleV hq.length p.2 = true)
  {tm : List (Nat × V)} {ext : List (Option Obj)} (hx : execC C n roundC ((iSt hq a s l ver len rs p).set 32 (.tup [.agg (rowP q), v])) = some (.normal, ⟨tm, hq ++ iOs s l' ver' rs' p ++ ext⟩))
  (h0 : look tm 0 = .map a) (h4 : look tm 4 = .bad) (h5 : look tm 5 = .map (hq.length + 1)) (h6 : look tm 6 = .arr (hq.length + 2) ver' 0 len') (h29 : look tm 29 = .ptr (hq.length + 4) 0) :
  oneM (execC C n roundC) annI 29 (hq.length + 4) id kvs 32 (iSt hq a s l ver len rs p) (kP q, v) = some (.normal, iSt hq a s l' ver' len' rs' p) := by
 unfold oneM
 have e : keyV (kP q) = .agg (rowP q) := rfl
 simp only [e, hx, back_i hS ha h0 h4 h5 h6 h29 ext]
 have hlt : id < hq.length := by
  rcases Qn id hq.length with h | h
  ·exact h
  ·rw [Qe h] at hid; cases hid
 have hob : (iSt hq a s l' ver' len' rs' p).obj id = some (.cmap kvs) := by
  unfold St.obj iSt; simp only; rw [List.getElem?_append_left hlt]; exact hid
 have hh : headOk 29 (hq.length + 4) id kvs (iSt hq a s l' ver' len' rs' p) = true := by
  unfold headOk
  rw [hob]
  simp [same_kvs kvs hk, iSt, St.get, iTm, look, V.same]
 simp only [hh, if_true]
theorem round_old {s : Pr} {l : List Pr} {ver len : Nat} {rs : List Pr} {p q : Pr} {v : V} {id : Nat} {kvs : List (List D × V)} (hid : (hq[id]?).join = some (.cmap kvs)) (hk : ∀ p ∈ kvs, simpleV hq.length p.2 = true) (hq' : q ∈ l) :
  oneM (execC C n roundC) annI 29 (hq.length + 4) id kvs 32 (iSt hq a s l ver len rs p) (kP q, v) = some (.normal, iSt hq a s l ver len rs p) := by
 obtain ⟨k, k1, k2⟩ := out_old hq'
 refine one_of C n hS ha hid hk (tm := (37, .d (.b false)) :: (36, .d (.b true)) :: (35, .agg (rowP q)) :: (34, .map (hq.length + 1)) :: (8, .ptr (hq.length + 5) 0) :: (33, .agg (rowP q)) :: (32, .tup [.agg (rowP q), v]) :: iTm a hq.length ver len) (ext := [some (.box (rowP q))]) ?_ (by simp [look, iTm]) (by simp [look, iTm]) (by simp [look, iTm]) (by simp [look, iTm]) (by simp [look, iTm])
 have e7 := reg7 C (iTm a hq.length ver len) (hq ++ iOs s l ver rs p) q v
 have hlen : (hq ++ iOs s l ver rs p).length = hq.length + 5 := by simp [iOs]
 rw [hlen] at e7
 have e8 := reg8 C ((8, .ptr (hq.length + 5) 0) :: (33, .agg (rowP q)) :: (32, .tup [.agg (rowP q), v]) :: iTm a hq.length ver len) (hq ++ iOs s l ver rs p ++ [some (.box (rowP q))]) (hq.length + 1) (hq.length + 5) q (kvOut l) k true
  (by simp [look, iTm]) (by simp [look]) (by rw [List.append_assoc, get_app]; simp [iOs]) (by rw [List.append_assoc, get_app]; simp [iOs]) k1 (by rw [k2]; rfl)
 unfold roundC
 simp only [execC, iSt, St.set, e7, e8, St.ev, St.get, look]
 simp
theorem round_new {s : Pr} {l : List Pr} {ver len : Nat} {rs : List Pr} {p q : Pr} {v : V} {id : Nat} {kvs : List (List D × V)} (hid : (hq[id]?).join = some (.cmap kvs)) (hk : ∀ p ∈ kvs, simpleV hq.length p.2 = true) (hq' : q ∉ l) (hl : len ≤ rs.length) (hro : roomy (len + 1) 16 = true) :
  oneM (execC C n roundC) annI 29 (hq.length + 4) id kvs 32 (iSt hq a s l ver len rs p) (kP q, v) = some (.normal, iSt hq a s (l ++ [q]) (ver + 1) (len + 1) (rs.take len ++ [q]) p) := by
 have k1 := out_new hq'
 refine one_of C n hS ha hid hk (tm := (6, .arr (hq.length + 2) (ver + 1) 0 (len + 1)) :: (43, .arr (hq.length + 2) (ver + 1) 0 (len + 1)) :: (42, .arr (hq.length + 6) 0 0 1) :: (41, .agg (rowP q)) :: (40, .arr (hq.length + 2) ver 0 len) :: (39, .agg (rowP q)) :: (38, .map (hq.length + 1)) :: (37, .d (.b true)) :: (36, .d (.b false)) :: (35, .agg (rowP q)) :: (34, .map (hq.length + 1)) :: (8, .ptr (hq.length + 5) 0) :: (33, .agg (rowP q)) :: (32, .tup [.agg (rowP q), v]) :: iTm a hq.length ver len)
  (ext := [some (.box (rowP q)), some (.arr 0 2 [rowP q]), none]) ?_ (by simp [look, iTm]) (by simp [look, iTm]) (by simp [look, iTm]) (by simp [look, iTm]) (by simp [look, iTm])
 have e7 := reg7 C (iTm a hq.length ver len) (hq ++ iOs s l ver rs p) q v
 have hlen : (hq ++ iOs s l ver rs p).length = hq.length + 5 := by simp [iOs]
 rw [hlen] at e7
 have e8 := reg8 C ((8, .ptr (hq.length + 5) 0) :: (33, .agg (rowP q)) :: (32, .tup [.agg (rowP q), v]) :: iTm a hq.length ver len) (hq ++ iOs s l ver rs p ++ [some (.box (rowP q))]) (hq.length + 1) (hq.length + 5) q (kvOut l) (kvOut l).length false
  (by simp [look, iTm]) (by simp [look]) (by rw [List.append_assoc, get_app]; simp [iOs]) (by rw [List.append_assoc, get_app]; simp [iOs]) k1 (by simp [got])
 have e9 := reg9 C ((37, .d (.b true)) :: (36, .d (.b false)) :: (35, .agg (rowP q)) :: (34, .map (hq.length + 1)) :: (8, .ptr (hq.length + 5) 0) :: (33, .agg (rowP q)) :: (32, .tup [.agg (rowP q), v]) :: iTm a hq.length ver len) (hq ++ iOs s l ver rs p ++ [some (.box (rowP q))]) (hq.length + 1) (hq.length + 5) q (kvOut l)
  (by simp [look, iTm]) (by simp [look]) (by rw [List.append_assoc, get_app]; simp [iOs]) (by rw [List.append_assoc, get_app]; simp [iOs]) k1
 have hset : (hq ++ iOs s l ver rs p ++ [some (Obj.box (rowP q))]).set (hq.length + 1) (some (Obj.map (kvOut l ++ [(kP q, V.d (.b true))]))) = hq ++ iOs s (l ++ [q]) ver rs p ++ [some (.box (rowP q))] := by
  rw [List.append_assoc, set_app, List.append_assoc]
  simp [iOs, kvOut]
 rw [hset] at e9
 have hlen2 : (hq ++ iOs s (l ++ [q]) ver rs p ++ [some (Obj.box (rowP q))]).length = hq.length + 6 := by simp [iOs]
 have e10 := reg10 C ((39, .agg (rowP q)) :: (38, .map (hq.length + 1)) :: (37, .d (.b true)) :: (36, .d (.b false)) :: (35, .agg (rowP q)) :: (34, .map (hq.length + 1)) :: (8, .ptr (hq.length + 5) 0) :: (33, .agg (rowP q)) :: (32, .tup [.agg (rowP q), v]) :: iTm a hq.length ver len) (hq ++ iOs s (l ++ [q]) ver rs p ++ [some (.box (rowP q))]) (hq.length + 2) (hq.length + 5) ver len q (rs.map rowP)
  (by simp [look, iTm]) (by simp [look]) (by rw [List.append_assoc, get_app]; simp [iOs]) (by omega) (by rw [List.append_assoc, get_app]; simp [iOs]) (by simpa using hl) hro
 rw [hlen2] at e10
 have hset2 : (((hq ++ iOs s (l ++ [q]) ver rs p ++ [some (Obj.box (rowP q))]) ++ [some (Obj.arr 0 2 [rowP q]), none]).set (hq.length + 2) (some (Obj.arr (ver + 1) 2 ((rs.map rowP).take len ++ [rowP q])))).set (hq.length + 6) (some (Obj.arr 0 2 [rowP q])) =
   hq ++ iOs s (l ++ [q]) (ver + 1) (rs.take len ++ [q]) p ++ [some (Obj.box (rowP q)), some (Obj.arr 0 2 [rowP q]), none] := by
  rw [List.append_assoc, List.append_assoc, set_app, set_app, List.append_assoc]
  simp [iOs, List.map_take]
 rw [hset2] at e10
 unfold roundC
 simp only [execC, iSt, St.set, e7, e8, St.ev, St.get, look]
 simp only [Bool.not_false, if_true, e9, e10, reduceIte, reduceCtorEq]
end
end Ab.Ci
namespace Ab.Ci
open Go Ab
theorem len_sub {α : Type} [DecidableEq α] : ∀ {l m : List α}, l.Nodup → (∀ x ∈ l, x ∈ m) → l.length ≤ m.length
 | [], _, _, _ => by simp
 | x :: l, m, hn, h => by
  have hn' := List.nodup_cons.1 hn
  have hx := h x List.mem_cons_self
  have := len_sub (l := l) (m := m.erase x) hn'.2 (fun y hy => (List.mem_erase_of_ne (fun e => hn'.1 (by rw [← e]; exact hy))).2 (h y (List.mem_cons_of_mem _ hy)))
  rw [List.length_erase_of_mem hx] at this
  have h0 : 0 < m.length := List.length_pos_of_mem hx
  simp only [List.length_cons]
  omega
def C0 : CallF := fun _ _ _ => none
theorem c0_ok {P : Program} {tab : Tab} : CallOk P tab C0 := ⟨fun _ _ _ _ _ _ _ h => by simp [C0] at h, fun _ _ _ _ _ _ _ h => by simp [C0] at h⟩
theorem reg11 (C : CallF) (tm : List (Nat × V)) (h : List (Option Obj)) (m : Nat) (h5 : look tm 5 = .map m) : runRegion C false [
 ⟨(some 44), .mv (.t 5), none, 0⟩,
 ⟨(some 4), .mv (.t 44), none, 0⟩] ⟨tm, h⟩ = some ⟨(4, .map m) :: (44, .map m) :: tm, h⟩ := by
 simp [runRegion, runOps, opEff, wanted, Cop.isCall, St.ev, St.get, look, St.obj, Cop.args, Cop.ids, Cop.wr, Cop.nmk, Cop.mk, act, Res.nws, Eff.on, setObjs, St.put, St.set, countMk, List.range', h5]
structure Inn (g : List (Pr × List Pr)) (s p : Pr) (l td : List Pr) : Prop where
 nd : l.Nodup
 far : ∀ y ∈ l, Far g s y
 todo : ∀ x ∈ td, x = s ∨ x ∈ l
 done : ∀ x, x = s ∨ x ∈ l → x = p ∨ x ∈ td ∨ ∀ y ∈ succP g x, y ∈ l
theorem Inn.add {g : List (Pr × List Pr)} {s p q : Pr} {l td : List Pr} (h : Inn g s p l td) (hp : p = s ∨ Far g s p) (hq : q ∈ succP g p) (hn : q ∉ l) : Inn g s p (l ++ [q]) (td ++ [q]) := by
 have fq : Far g s q := by
  rcases hp with rfl | hp
  ·exact .one hq
  ·exact .more hp hq
 refine ⟨List.nodup_append.2 ⟨h.nd, by simp, fun a ha b hb e => ?_⟩, fun y hy => ?_, fun x hx => ?_, fun x hx => ?_⟩
 ·simp only [List.mem_singleton] at hb; subst hb; exact hn (e ▸ ha)
 ·rcases List.mem_append.1 hy with hy | hy
  ·exact h.far y hy
  ·simp only [List.mem_singleton] at hy; subst hy; exact fq
 ·rcases List.mem_append.1 hx with hx | hx
  ·exact (h.todo x hx).imp id fun k => List.mem_append.2 (.inl k)
  ·exact .inr (List.mem_append.2 (.inr hx))
 ·have old : x = s ∨ x ∈ l → x = p ∨ x ∈ td ++ [q] ∨ ∀ y ∈ succP g x, y ∈ l ++ [q] := fun k => by
   rcases h.done x k with k | k | k
   ·exact .inl k
   ·exact .inr (.inl (List.mem_append.2 (.inl k)))
   ·exact .inr (.inr fun y hy => List.mem_append.2 (.inl (k y hy)))
  rcases hx with hx | hx
  ·exact old (.inl hx)
  ·rcases List.mem_append.1 hx with hx | hx
   ·exact old (.inr hx)
   ·exact .inr (.inl (List.mem_append.2 (.inr hx)))
section
variable {P : Program} {tab : Tab} {nt : Nat} (hB : BodyOk P tab) (hm : P.follows .mixedOrders = true)
 {hp : List (Option Obj)} (hsm : hp.all (simpleO hp.length) = true) {a : Nat} {kvs : List (List D × V)} (hkv : mapO (hp[a]?).join = some kvs) {g : List (Pr × List Pr)} (hg : graphOf hp kvs = some g) (hgn : ∀ e ∈ g, e.2.Nodup)
include hsm
theorem frz_at {id : Nat} {inner : List (List D × V)} (h : mapO (hp[id]?).join = some inner) : id < (hp.map freezeO).length ∧ ((hp.map freezeO)[id]?).join = some (.cmap inner) ∧ ∀ p ∈ inner, simpleV (hp.map freezeO).length p.2 = true := by
 have hlt : id < hp.length := by
  rcases Qn id hp.length with k | k
  ·exact k
  ·rw [Qe k] at h; simp [mapO] at h
 rw [Qd hlt] at h
 simp only [Option.join_some] at h
 obtain ⟨_, kv, k1, k2, k3⟩ := simple_freeze (List.all_eq_true.1 hsm _ (List.getElem_mem hlt))
 rw [k2] at h
 simp only [Qa] at h
 subst h
 refine ⟨by simpa using hlt, ?_, by simpa using k3⟩
 rw [List.getElem?_map, Qd hlt]
 simpa using k1
include hB hm hkv hg hgn
theorem reach_snd {s : Pr} {out : List Pr} (hout : closeP g (size2 g) [s] [] = some out) (hsz : out.length ≤ 65536) (hfar : (hp.map freezeO).length + 1 + refsAll (hp.map freezeO) ≤ far) :
  SndC P tab C0 0 nt reachC.body (entry [.map a, .agg (rowP s)] hp) (fun ex t => (ex = .normal ∨ ex = .ret) ∧ result (hp.map freezeO).length t [.slot 4] = some (.map (hp.map freezeO).length, hp.map freezeO ++ [some (.map (kvOut out))])) := by
 have hS0 := freeze_simple hsm
 have hlen : (hp.map freezeO).length = hp.length := Qf ..
 rw [← hlen] at hS0
 obtain ⟨ha, hob, hks⟩ := frz_at hsm hkv
 have hI := close_inv hgn hout (Inv.start g s)
 have htell : Tells tab (entry [.map a, .agg (rowP s)] hp) ⟨tm0 a s.1 s.2, hp.map freezeO⟩ := by
  have := tells_freeze (tab := tab) (tm0 a s.1 s.2) hp []
  simpa [entry, tm0, rowP] using this
 refine SndC.pre htell ?_
 have fz : ∀ {id : Nat} {inner : List (List D × V)}, mapO (hp[id]?).join = some inner → id < (hp.map freezeO).length ∧ ((hp.map freezeO)[id]?).join = some (.cmap inner) ∧ ∀ p ∈ inner, simpleV (hp.map freezeO).length p.2 = true := fun h => frz_at hsm h
 clear htell hlen
 generalize hp.map freezeO = hq at *
 unfold reachC
 refine snd_seq (snd_exec hB c0_ok hm (s' := ⟨(4, .d .nm) :: (3, .ptr hq.length 0) :: tm0 a s.1 s.2, hq ++ [some (.box (rowP s))]⟩) (ex := .normal) (by simp only [execC, reg0]; rfl)) ?_ (fun ex t h1 h2 => absurd h2.1 h1)
 rintro _ ⟨_, rfl⟩
 refine snd_seq (snd_exec hB c0_ok hm (ex := .normal) (by simp only [execC]; rw [show ([some (Obj.box (rowP s))] : List (Option Obj)) = [some (.box [.d (.i .i64 s.1), .d (.i .i64 s.2)])] from rfl, reg1 C0 hq _ s.1 s.2 (by simp [look])])) ?_ (fun ex t h1 h2 => absurd h2.1 h1)
 rintro _ ⟨_, rfl⟩
 refine snd_seq (pa := fun ex t => ex = .normal ∧ ∃ l ver rs tm, t = ⟨tm, hq ++ oOs s l ver rs⟩ ∧ look tm 5 = .map (hq.length + 1) ∧ Inv g s l []) (snd_block (snd_loop
  (fun t => ∃ l ver len rs, t = oSt hq a s l ver len rs ∧ len ≤ rs.length ∧ Inv g s l (rs.take len) ∧ len ≤ l.length + 1)
  (fun t => 2 * (out.length - (match t.obj (hq.length + 1) with | some (.map kv) => kv.length | _ => 0)) + (match t.get 6 with | .arr _ _ _ len => len | _ => 0)) ?_ ?_)) ?_ (fun ex t h1 h2 => absurd h2.1 h1)
 ·refine ⟨[], 0, 1, [s], ?_, by simp, by simpa using Inv.start g s, by simp⟩
  simp [enter, dats, datSlot, St.get, look, datV, datC, St.set, keepTmps, tm0, oSt, oTm, oOs, kvOut, rowP]
 ·rintro t ⟨l, ver, len, rs, rfl, hlr, hinv, hll⟩
  have hlb : l.length ≤ out.length := len_sub hinv.nd fun y hy => hI.all y (hinv.far y hy)
  have hel : (enter (⟨[0, 5, 6], [], [], [6], [], true⟩ : Ann) (⟨(6, .arr (hq.length + 2) 0 0 1) :: (5, .map (hq.length + 1)) :: (11, .arr (hq.length + 2) 0 0 1) :: (10, .agg [.d (.i .i64 s.1), .d (.i .i64 s.2)]) :: (9, .map (hq.length + 1)) :: (4, .d .nm) :: (3, .ptr hq.length 0) :: tm0 a s.1 s.2,
   hq ++ [some (.box [.d (.i .i64 s.1), .d (.i .i64 s.2)]), some (.map []), some (.arr 0 2 [[.d (.i .i64 s.1), .d (.i .i64 s.2)]])]⟩ : St)).heap.length = hq.length + 3 := by
   simp [enter, dats, datSlot, St.set]
  rw [hel]
  have e2 := reg2 C0 hq (rowP s) (kvOut l) a ver len (rs.map rowP)
  cases len with
  | zero =>
   refine snd_seq (snd_exec hB c0_ok hm (ex := .exit 0) (by
    show execC C0 0 _ ⟨oTm a hq.length ver 0, oHp hq (rowP s) (kvOut l) ver (rs.map rowP)⟩ = _
    simp only [execC, e2, St.ev, St.get, look]
    simp
    rfl)) (fun t h => absurd h.1 (by simp)) ?_
   rintro ex t h1 ⟨rfl, rfl⟩
   simp only [if_true]
   exact ⟨trivial, l, ver, rs, _, rfl, by simp [look, oTm], by simpa using hinv⟩
  | succ m =>
   refine snd_seq (snd_exec hB c0_ok hm (ex := .normal) (s' := ⟨(14, .d (.b true)) :: (13, .d (.i .i64 ((m + 1 : Nat) : Int))) :: (12, .arr (hq.length + 2) ver 0 (m + 1)) :: oTm a hq.length ver (m + 1), hq ++ oOs s l ver rs⟩) (by
    show execC C0 0 _ ⟨oTm a hq.length ver (m + 1), oHp hq (rowP s) (kvOut l) ver (rs.map rowP)⟩ = _
    simp only [execC, e2, St.ev, St.get, look]
    simp
    rfl)) ?_ (fun ex t h1 h2 => absurd h2.1 h1)
   rintro _ ⟨_, rfl⟩
   have hmr : m < rs.length := by omega
   have hrow : rs[m]? = some rs[m] := Qd hmr
   generalize rs[m] = p at hrow
   have htake : rs.take (m + 1) = rs.take m ++ [p] := by rw [List.take_add_one, hrow]; rfl
   rw [htake] at hinv
   have hp1 : p = s ∨ Far g s p := (hinv.todo p (by simp)).imp id fun h => hinv.far p h
   have hinn : Inn g s p l (rs.take m) := ⟨hinv.nd, hinv.far, fun x hx => hinv.todo x (List.mem_append.2 (.inl hx)), fun x hx => by
    rcases hinv.done x hx with k | k
    ·rcases List.mem_append.1 k with k | k
     ·exact .inr (.inl k)
     ·exact .inl (by simpa using k)
    ·exact .inr (.inr k)⟩
   have e3 := reg3 C0 hq ((14, .d (.b true)) :: (13, .d (.i .i64 ((m + 1 : Nat) : Int))) :: (12, .arr (hq.length + 2) ver 0 (m + 1)) :: oTm a hq.length ver (m + 1)) (rowP s) (kvOut l) ver m (rs.map rowP) p (by simp [look, oTm]) (by omega) (by rw [List.getElem?_map, hrow]; rfl)
   refine snd_block (snd_seq (snd_exec hB c0_ok hm (ex := .normal) (by
    show execC C0 0 _ ⟨_, oHp hq (rowP s) (kvOut l) ver (rs.map rowP)⟩ = _
    simp only [execC, e3]
    rfl)) ?_ (fun ex t h1 h2 => absurd h2.1 h1))
   rintro _ ⟨_, rfl⟩
   have hhp : oHp hq (rowP s) (kvOut l) ver (rs.map rowP) ++ [some (.box (rowP p))] = hq ++ (oOs s l ver rs ++ [some (.box (rowP p))]) := by simp [oHp, oOs]
   rw [hhp]
   refine snd_seq (snd_exec hB c0_ok hm (ex := .normal) (by
    simp only [execC]
    rw [reg4 C0 _ _ ver m (rs.map rowP) (hq.length + 2) (by simp [look, oTm]) (by rw [get_app]; rfl) (by omega)])) ?_ (fun ex t h1 h2 => absurd h2.1 h1)
   rintro _ ⟨_, rfl⟩
   obtain ⟨k, hk1, hk2⟩ := graph_at (x := p) hg
   have e5 := fun tm h0 h7 => reg5 C0 tm (hq ++ (oOs s l ver rs ++ [some (.box (rowP p))])) a (hq.length + 3) p kvs k h0 h7 (by rw [List.getElem?_append_left ha]; exact hob) (by rw [get_app]; rfl) hk1
   have hH : (hq ++ (oOs s l ver rs ++ [some (Obj.box (rowP p))])).length = hq.length + 4 := by simp [oOs]
   have hfin : ∀ (l' : List Pr) (ver' len' : Nat) (rs' : List Pr), Inn g s p l' (rs'.take len') → (∀ q ∈ succP g p, q ∈ l') → len' ≤ rs'.length → len' + l.length = m + l'.length → l.length ≤ l'.length →
     ∃ t'', back annO (hq.length + 3) (iSt hq a s l' ver' len' rs' p) = some t'' ∧ (∃ l ver len rs, t'' = oSt hq a s l ver len rs ∧ len ≤ rs.length ∧ Inv g s l (rs.take len) ∧ len ≤ l.length + 1) ∧
      2 * (out.length - (match t''.obj (hq.length + 1) with | some (.map kv) => kv.length | _ => 0)) + (match t''.get 6 with | .arr _ _ _ len => len | _ => 0) <
      2 * (out.length - (match (oSt hq a s l ver (m + 1) rs).obj (hq.length + 1) with | some (.map kv) => kv.length | _ => 0)) + (match (oSt hq a s l ver (m + 1) rs).get 6 with | .arr _ _ _ len => len | _ => 0) := by
    intro l' ver' len' rs' hn hsu h1 h2 h3
    have hlb' : l'.length ≤ out.length := len_sub hn.nd fun y hy => hI.all y (hn.far y hy)
    refine ⟨oSt hq a s l' ver' len' rs', ?_, ⟨l', ver', len', rs', rfl, h1, ⟨hn.nd, hn.far, hn.todo, fun x hx => ?_⟩, by omega⟩, ?_⟩
    ·have := back_o hS0 ha (s := s) (l := l') (ver := ver') (len := len') (rs := rs') (tm := iTm a hq.length ver' len') (by simp [look, iTm]) (by simp [look, iTm]) (by simp [look, iTm]) [some (.box (rowP p)), some (.cst [])]
     have e : hq ++ oOs s l' ver' rs' ++ [some (Obj.box (rowP p)), some (.cst [])] = hq ++ iOs s l' ver' rs' p := by simp [oOs, iOs]
     rw [e] at this
     exact this
    ·rcases hn.done x hx with rfl | k | k
     ·exact .inr hsu
     ·exact .inl k
     ·exact .inr k
    ·have e1 : ∀ l ver len rs, (oSt hq a s l ver len rs).obj (hq.length + 1) = some (.map (kvOut l)) := fun l ver len rs => by unfold St.obj oSt; simp [get_app, oOs]
     have e2 : ∀ l ver len rs, (oSt hq a s l ver len rs).get 6 = .arr (hq.length + 2) ver 0 len := fun l ver len rs => by simp [St.get, oSt, oTm, look]
     simp only [e1, e2, kvOut, Qf]
     show 2 * (out.length - l'.length) + len' < 2 * (out.length - l.length) + (m + 1)
     have : l.length ≤ l'.length := h3
     have h2' : len' + l.length = m + l'.length := h2
     clear h1 hfar hS0 ha
     omega
   refine snd_rangeM hB c0_ok hm (e5 _ (by simp [look, oTm]) (by simp [look])) (O := fun o => o.1 = .normal ∧ ∃ l' ver' len' rs', o.2 = iSt hq a s l' ver' len' rs' p ∧ Inn g s p l' (rs'.take len') ∧ (∀ q ∈ succP g p, q ∈ l') ∧ len' ≤ rs'.length ∧ len' + l.length = m + l'.length ∧ l.length ≤ l'.length) ?_ ?_
   ·have hiter : ∀ tm : List (Nat × V), iterM 29 ⟨tm, hq ++ (oOs s l ver rs ++ [some (.box (rowP p))])⟩ = ⟨(29, .ptr (hq.length + 4) 0) :: tm, hq ++ iOs s l ver rs p ++ []⟩ := fun tm => by
     unfold iterM
     simp only [hH]
     simp [oOs, iOs]
    have hbk : ∀ tm : List (Nat × V), look tm 0 = .map a → look tm 4 = .bad → look tm 5 = .map (hq.length + 1) → look tm 6 = .arr (hq.length + 2) ver 0 m → back (⟨[0, 4, 5, 6, 29], [], [], [], [], true⟩ : Ann) ((hq ++ (oOs s l ver rs ++ [some (Obj.box (rowP p))])).length + 1) (iterM 29 ⟨tm, hq ++ (oOs s l ver rs ++ [some (.box (rowP p))])⟩) = some (iSt hq a s l ver m rs p) := fun tm h0 h4 h5 h6 => by
     rw [hiter, hH]
     exact back_i hS0 ha (by simpa [look] using h0) (by simpa [look] using h4) (by simpa [look] using h5) (by simpa [look] using h6) (by simp [look]) []
    rcases hk2 with ⟨hf, hnone⟩ | ⟨e, id, inner, hf, hsome, hin, hpk⟩
    ·refine .inl ⟨by simp [St.ev, St.get, look, hnone, got], _, hbk _ (by simp [look, oTm]) (by simp [look, oTm]) (by simp [look, oTm]) (by simp [look]), by simp [St.get, iSt, iTm, look, hH], rfl, l, ver, m, rs, rfl, hinn, ?_, by omega, by omega, Nat.le_refl _⟩
     unfold succP
     rw [hf]
     simp
    ·obtain ⟨hid1, hid2, hid3⟩ := fz hin
     obtain ⟨pk1, pk2⟩ := pKs_mem hpk
     have hsucc : succP g p = e.2 := by unfold succP; rw [hf]
     refine .inr ⟨id, inner, _, iSt hq a s l ver m rs p, inner, by simp [St.ev, St.get, look, hsome, got], ⟨.inr (by unfold St.obj; simp only; rw [List.getElem?_append_left hid1]; exact hid2), .inl rfl⟩, hbk _ (by simp [look, oTm]) (by simp [look, oTm]) (by simp [look, oTm]) (by simp [look]),
      by unfold St.obj iSt; simp only; rw [List.getElem?_append_left hid1]; exact hid2, by simp [St.get, iSt, iTm, look, hH],
      fun t dn => ∃ l' ver' len' rs', t = iSt hq a s l' ver' len' rs' p ∧ Inn g s p l' (rs'.take len') ∧ (∀ x ∈ dn, ∀ q, x.1 = kP q → q ∈ l') ∧ len' ≤ rs'.length ∧ len' + l.length = m + l'.length ∧ l.length ≤ l'.length,
      ⟨l, ver, m, rs, rfl, hinn, by simp, by omega, by omega, Nat.le_refl _⟩, ?_, ?_⟩
     ·rintro t dn ⟨kk, v⟩ ⟨l', ver', len', rs', rfl, i1, i2, i3, i4, i5⟩ hx hnd
      obtain ⟨q, hq1, hq2⟩ := pk1 _ hx
      simp only at hq2
      subst hq2
      rw [hH]
      refine .inl ?_
      by_cases hql : q ∈ l'
      ·refine ⟨_, round_old C0 0 hS0 ha hid2 hid3 hql, l', ver', len', rs', rfl, i1, fun x hx q' he => ?_, i3, i4, i5⟩
       rcases List.mem_cons.1 hx with rfl | hx
       ·rw [← kP_inj he]; exact hql
       ·exact i2 x hx q' he
      ·have hb' : l'.length ≤ out.length := len_sub i1.nd fun y hy => hI.all y (i1.far y hy)
       have hn2 : (rs'.take len' ++ [q]).take (len' + 1) = rs'.take len' ++ [q] := List.take_of_length_le (by simp; omega)
       refine ⟨_, round_new C0 0 hS0 ha hid2 hid3 hql i3 (by simp only [roomy, Qh]; omega), l' ++ [q], ver' + 1, len' + 1, rs'.take len' ++ [q], rfl, by rw [hn2]; exact i1.add hp1 (by rw [hsucc]; exact hq1) hql, fun x hx q' he => ?_, by simp; omega, by simp; omega, by simp; omega⟩
       rcases List.mem_cons.1 hx with rfl | hx
       ·rw [← kP_inj he]; simp
       ·exact List.mem_append.2 (.inl (i2 x hx q' he))
     ·rintro t dn ⟨l', ver', len', rs', rfl, i1, i2, i3, i4, i5⟩ hall
      refine ⟨rfl, l', ver', len', rs', rfl, i1, fun q hq' => ?_, i3, i4, i5⟩
      rw [hsucc] at hq'
      obtain ⟨x, hx1, hx2⟩ := pk2 q hq'
      exact i2 x (hall x hx1) q hx2
   ·rintro ⟨ex, t⟩ ⟨h1, l', ver', len', rs', h2, i1, i2, i3, i4, i5⟩
    simp only at h1 h2
    subst h1
    subst h2
    simp only [leaveM]
    exact hfin l' ver' len' rs' i1 i2 i3 i4 i5
 ·rintro t ⟨_, l, ver, rs, tm, rfl, h5, hinv⟩
  have e11 := reg11 C0 tm (hq ++ oOs s l ver rs) (hq.length + 1) h5
  refine SndC.post (snd_exec hB c0_ok hm (ex := .ret) (by simp only [execC, e11]; rfl)) ?_
  rintro ex t ⟨rfl, rfl⟩
  refine ⟨⟨(4, .map (hq.length + 1)) :: (44, .map (hq.length + 1)) :: tm, hq ++ oOs s out ver rs⟩, ?_, .inr rfl, result_ok hS0 hfar s out ver rs _ (by simp [look])⟩
  have := tells_perm (tab := tab) (s := ⟨(4, .map (hq.length + 1)) :: (44, .map (hq.length + 1)) :: tm, hq ++ oOs s l ver rs⟩) (id := hq.length + 1) (kvs := kvOut l) (kvs' := kvOut out) (by unfold St.obj; simp [get_app, oOs]) ((hinv.perm hI).map _)
  simpa [set_app, oOs] using this
end
theorem reach_ok {P : Program} {tab : Tab} (hB : BodyOk P tab) (hm : P.follows .mixedOrders = true) {fid : Nat} {fn : Func} (hf : P.funcs[fid]? = some fn) {notes : Notes} (hc : compFn P tab fn notes = some (reachC, [])) : FnOk P tab fid reachImpl := by
 refine fn_snd (call := C0) (n := 0) hB hf hc (by simp) (fun args hp r hp' h => ?_)
 unfold reachImpl at h
 split at h
 case h_2 => cases h
 rename_i a x y
 split at h
 case isFalse => cases h
 rename_i hsm
 split at h
 case h_2 => cases h
 rename_i kvs hkv
 split at h
 case h_2 => cases h
 rename_i g hg
 split at h
 case isFalse => cases h
 rename_i hgn
 split at h
 case h_2 => cases h
 rename_i out hout
 split at h
 case isFalse => cases h
 rename_i hsz
 simp only [Qa, Qj] at h
 obtain ⟨rfl, rfl⟩ := h
 have hrl : refsAll (hp.map freezeO) = refsAll hp := by
  have : ∀ l : List (Option Obj), refsAll (l.map freezeO) = refsAll l := by
   intro l
   induction l with
   | nil => rfl
   | cons o l ih =>
    simp only [Qb, refsAll, ih]
    cases o with
    | none => rfl
    | some o => cases o <;> rfl
  exact this hp
 have := reach_snd (nt := fn.ntmps) hB hm hsm hkv hg (fun e he => by simpa using List.all_eq_true.1 hgn e he) (s := (x, y)) hout hsz.1 (by rw [hrl, Qf]; exact hsz.2)
 rw [Qf] at this
 exact this
end Ab.Ci
namespace Ab
open Go
@[reducible] def oo (d : Nat) (op : Cop) : CO := ⟨some d, op, none, 0⟩
@[reducible] def ki (n : Int) : A := .k (.d (.i .i64 n))
@[reducible] def om (d t : Nat) : CO := ⟨some d, .mv (.t t), none, 0⟩
@[reducible] def ol (d : Nat) (b : Bool) (n t : Nat) : CO := ⟨some d, .ld b n (.t t), none, 0⟩
@[reducible] def og (d : Nat) (c : Cop) (g : Nat) : CO := ⟨some d, c, some (g, true), 0⟩
@[reducible] def oh (d : Nat) (c : Cop) (g : Nat) : CO := ⟨some d, c, some (g, false), 0⟩
@[reducible] def ow (d : Nat) (c : Cop) (p : Nat) : CO := ⟨some d, c, none, p⟩
@[reducible] def oz (c : Cop) (p : Nat) : CO := ⟨none, c, none, p⟩
@[reducible] def sq (l : List CO) (c : CCode) : CCode := .seq (.region false l) c
@[reducible] def zE : List V := [.d (.i .i64 0), .d (.i .i64 0), .d (.i .i64 0), .d (.s []), .nil 4, .d (.i .i64 0), .d (.i .i64 0), .nil 8]
@[reducible] def zV : List V := [.d (.i .i64 0), .d (.i .i64 0), .d (.s []), .nil 4]
@[reducible] def kb (b : Bool) : A := .k (.d (.b b))
@[reducible] def fa (n t : Nat) : Cop := .fa n (.t t)
@[reducible] def ct (t : Nat) (a b : CCode) : CCode := .cond (.t t) a b
@[reducible] def ob (d : Nat) (o : BinOp) (x y : A) : CO := ⟨some d, .bin o x y, none, 0⟩
end Ab
