/-
  The table of the functions that the laws reach: each is what was compiled of it.
-/
import Derived.Test.YtbkffiolojmfoaaRows
import Derived.ProofKit
import Derived.Test.YtbkffiolojmfoaaPack11
namespace Go.Proofs.Ytbkffiolojmfoaa
open Go Ab
set_option linter.unusedVariables false
set_option maxRecDepth 100000

def vTab : Tab := [(3, 100), (4, 101), (5, 102), (6, 103), (7, 104), (8, 105), (9, 106), (10, 107), (11, 108), (12, 109), (13, 110), (14, 111), (15, 112), (16, 113), (17, 114), (18, 115), (19, 116), (20, 117), (21, 118), (22, 119), (23, 120), (24, 121), (25, 122), (26, 123), (27, 124), (28, 125), (29, 126), (30, 127), (31, 128), (32, 129), (33, 130), (34, 131), (35, 132), (36, 133), (37, 134), (38, 135), (39, 136), (40, 137), (41, 138), (42, 139), (43, 140), (44, 141), (45, 142), (46, 143), (47, 144), (48, 145), (49, 146), (50, 147), (53, 150), (54, 151), (55, 152), (56, 153), (57, 154), (58, 155)]

def vE : Nat → Option Ab.Fn
  | 100 => some (.code c100)
  | 101 => some (.code c101)
  | 102 => some (.code c102)
  | 103 => some (.code c103)
  | 104 => some (.code c104)
  | 105 => some (.code c105)
  | 106 => some (.code c106)
  | 107 => some (.code c107)
  | 108 => some (.code c108)
  | 109 => some (.code c109)
  | 110 => some (.code c110)
  | 111 => some (.code c111)
  | 112 => some (.code c112)
  | 113 => some (.code c113)
  | 114 => some (.code c114)
  | 115 => some (.code c115)
  | 116 => some (.code c116)
  | 117 => some (.code c117)
  | 118 => some (.code c118)
  | 119 => some (.code c119)
  | 120 => some (.code c120)
  | 121 => some (.code c121)
  | 122 => some (.code c122)
  | 123 => some (.code c123)
  | 124 => some (.code c124)
  | 125 => some (.code c125)
  | 126 => some (.code c126)
  | 127 => some (.code c127)
  | 128 => some (.code c128)
  | 129 => some (.code c129)
  | 130 => some (.code c130)
  | 131 => some (.code c131)
  | 132 => some (.code c132)
  | 133 => some (.code c133)
  | 134 => some (.prim insImpl)
  | 135 => some (.code c135)
  | 136 => some (.code c136)
  | 137 => some (.code c137)
  | 138 => some (.code c138)
  | 139 => some (.code c139)
  | 140 => some (.code c140)
  | 141 => some (.code c141)
  | 142 => some (.code c142)
  | 143 => some (.code c143)
  | 144 => some (.code c144)
  | 145 => some (.code c145)
  | 146 => some (.prim (cloneImpl 4 56))
  | 147 => some (.code c147)
  | 150 => some (.code c150)
  | 151 => some (.code c151)
  | 152 => some (.code c152)
  | 153 => some (.code c153)
  | 154 => some (.code c154)
  | 155 => some (.code c155)
  | _ => none

theorem chk100 : compFn Try.prog vTab Try.f3 n100 = some c100 := by kernel_rfl
theorem chk101 : compFn Try.prog vTab Try.f4 n101 = some c101 := by kernel_rfl
theorem chk102 : compFn Try.prog vTab Try.f5 n102 = some c102 := by kernel_rfl
theorem chk103 : compFn Try.prog vTab Try.f6 n103 = some c103 := by kernel_rfl
theorem chk104 : compFn Try.prog vTab Try.f7 n104 = some c104 := by kernel_rfl
theorem chk105 : compFn Try.prog vTab Try.f8 n105 = some c105 := by kernel_rfl
theorem chk106 : compFn Try.prog vTab Try.f9 n106 = some c106 := by kernel_rfl
theorem chk107 : compFn Try.prog vTab Try.f10 n107 = some c107 := by kernel_rfl
theorem chk108 : compFn Try.prog vTab Try.f11 n108 = some c108 := by kernel_rfl
theorem chk109 : compFn Try.prog vTab Try.f12 n109 = some c109 := by kernel_rfl
theorem chk110 : compFn Try.prog vTab Try.f13 n110 = some c110 := by kernel_rfl
theorem chk111 : compFn Try.prog vTab Try.f14 n111 = some c111 := by kernel_rfl
theorem chk112 : compFn Try.prog vTab Try.f15 n112 = some c112 := by kernel_rfl
theorem chk113 : compFn Try.prog vTab Try.f16 n113 = some c113 := by kernel_rfl
theorem chk114 : compFn Try.prog vTab Try.f17 n114 = some c114 := by kernel_rfl
theorem chk115 : compFn Try.prog vTab Try.f18 n115 = some c115 := by kernel_rfl
theorem chk116 : compFn Try.prog vTab Try.f19 n116 = some c116 := by kernel_rfl
theorem chk117 : compFn Try.prog vTab Try.f20 n117 = some c117 := by kernel_rfl
theorem chk118 : compFn Try.prog vTab Try.f21 n118 = some c118 := by kernel_rfl
theorem chk119 : compFn Try.prog vTab Try.f22 n119 = some c119 := by kernel_rfl
theorem chk120 : compFn Try.prog vTab Try.f23 n120 = some c120 := by kernel_rfl
theorem chk121 : compFn Try.prog vTab Try.f24 n121 = some c121 := by kernel_rfl
theorem chk122 : compFn Try.prog vTab Try.f25 n122 = some c122 := by kernel_rfl
theorem chk123 : compFn Try.prog vTab Try.f26 n123 = some c123 := by kernel_rfl
theorem chk124 : compFn Try.prog vTab Try.f27 n124 = some c124 := by kernel_rfl
theorem chk125 : compFn Try.prog vTab Try.f28 n125 = some c125 := by kernel_rfl
theorem chk126 : compFn Try.prog vTab Try.f29 n126 = some c126 := by kernel_rfl
theorem chk127 : compFn Try.prog vTab Try.f30 n127 = some c127 := by kernel_rfl
theorem chk128 : compFn Try.prog vTab Try.f31 n128 = some c128 := by kernel_rfl
theorem chk129 : compFn Try.prog vTab Try.f32 n129 = some c129 := by kernel_rfl
theorem chk130 : compFn Try.prog vTab Try.f33 n130 = some c130 := by kernel_rfl
theorem chk131 : compFn Try.prog vTab Try.f34 n131 = some c131 := by kernel_rfl
theorem chk132 : compFn Try.prog vTab Try.f35 n132 = some c132 := by kernel_rfl
theorem chk133 : compFn Try.prog vTab Try.f36 n133 = some c133 := by kernel_rfl
theorem chk135 : compFn Try.prog vTab Try.f38 n135 = some c135 := by kernel_rfl
theorem chk136 : compFn Try.prog vTab Try.f39 n136 = some c136 := by kernel_rfl
theorem chk137 : compFn Try.prog vTab Try.f40 n137 = some c137 := by kernel_rfl
theorem chk138 : compFn Try.prog vTab Try.f41 n138 = some c138 := by kernel_rfl
theorem chk139 : compFn Try.prog vTab Try.f42 n139 = some c139 := by kernel_rfl
theorem chk140 : compFn Try.prog vTab Try.f43 n140 = some c140 := by kernel_rfl
theorem chk141 : compFn Try.prog vTab Try.f44 n141 = some c141 := by kernel_rfl
theorem chk142 : compFn Try.prog vTab Try.f45 n142 = some c142 := by kernel_rfl
theorem chk143 : compFn Try.prog vTab Try.f46 n143 = some c143 := by kernel_rfl
theorem chk144 : compFn Try.prog vTab Try.f47 n144 = some c144 := by kernel_rfl
theorem chk145 : compFn Try.prog vTab Try.f48 n145 = some c145 := by kernel_rfl
theorem chk147 : compFn Try.prog vTab Try.f50 n147 = some c147 := by kernel_rfl
theorem chk150 : compFn Try.prog vTab Try.f53 n150 = some c150 := by kernel_rfl
theorem chk151 : compFn Try.prog vTab Try.f54 n151 = some c151 := by kernel_rfl
theorem chk152 : compFn Try.prog vTab Try.f55 n152 = some c152 := by kernel_rfl
theorem chk153 : compFn Try.prog vTab Try.f56 n153 = some c153 := by kernel_rfl
theorem chk154 : compFn Try.prog vTab Try.f57 n154 = some c154 := by kernel_rfl
theorem chk155 : compFn Try.prog vTab Try.f58 n155 = some c155 := by kernel_rfl

def vRho : Shelf.Ren := ⟨fun n => if n = 29 then 51 else if n = 30 then 52 else n, fun n => if n = 24 then 22 else if n = 9 then 24 else n, fun n => n⟩

theorem vIns : InsP Try.prog vRho 37 "slices.Insert[[]lemmata/api.Val,lemmata/api.Val]" #[22, 24] where
  mixed := by kernel_rfl
  fn := Try.func37.trans (congrArg some (by kernel_rfl))
  t0 := Try.underlying0
  t3 := Try.underlying3
  t4 := Try.underlying4
  t24 := Try.underlying22
  z24 := Try.sizeOf22
  z3 := Try.sizeOf3
  z4 := Try.sizeOf4
  i9 := by kernel_rfl
  ov := fun args w v h => by
    rw [show vRho.f 29 = 51 from rfl, run_callFunc_extern Try.func51 (by kernel_rfl) (by kernel_rfl) (by kernel_rfl) (e := Extern.SlicesOverlaps.overlaps #[22, 22] #[4]) (by kernel_rfl)]
    rw [show (Extern.SlicesOverlaps.overlaps #[22, 22] #[4] args).run Try.prog w = .ok v w from h]
    rfl

theorem vCln : ClP Try.prog vRho 49 "slices.Clone[[]lemmata/api.Val,lemmata/api.Val]" #[22, 24] 4 56 where
  mixed := by kernel_rfl
  fn := Try.func49.trans (congrArg some (by kernel_rfl))
  t4 := Try.underlying4
  t24 := Try.underlying22
  z9 := by kernel_rfl
  b9 := by kernel_rfl
  z0 := by decide
  b0 := by decide
  o9 := by kernel_rfl

theorem key_mem : ∀ {tab : Tab} {f key : Nat}, Ab.keyOf tab f = some key → (f, key) ∈ tab
  | [], f, key, h => by cases h
  | (a, b) :: r, f, key, h => by
    unfold Ab.keyOf at h
    simp only [List.find?_cons] at h
    cases hb : a == f with
    | true =>
      rw [hb] at h
      simp only [Option.map_some, Option.some.injEq] at h
      subst h
      rw [eq_of_beq hb]
      exact List.mem_cons_self
    | false =>
      rw [hb] at h
      exact List.mem_cons_of_mem _ (key_mem (tab := r) h)

theorem vBody : ∀ p ∈ vTab, ∀ args w, (callFunc p.1 args).run Try.prog w = .ok (.enter p.1 args) w := by
  simp only [vTab, List.forall_mem_cons]
  exact ⟨Try.call3, Try.call4, Try.call5, Try.call6, Try.call7, Try.call8, Try.call9, Try.call10, Try.call11, Try.call12, Try.call13, Try.call14, Try.call15, Try.call16, Try.call17, Try.call18, Try.call19, Try.call20, Try.call21, Try.call22, Try.call23, Try.call24, Try.call25, Try.call26, Try.call27, Try.call28, Try.call29, Try.call30, Try.call31, Try.call32, Try.call33, Try.call34, Try.call35, Try.call36, Try.call37, Try.call38, Try.call39, Try.call40, Try.call41, Try.call42, Try.call43, Try.call44, Try.call45, Try.call46, Try.call47, Try.call48, Try.call49, Try.call50, Try.call53, Try.call54, Try.call55, Try.call56, Try.call57, Try.call58, by simp⟩

def CodeAt (p : Nat × Nat) : Prop := ∀ cf, vE p.2 = some (.code cf) → ∃ fn notes, Try.prog.funcs[p.1]? = some fn ∧ compFn Try.prog vTab fn notes = some cf
theorem code_at {f key : Nat} {cf : CFn} {fn : Func} {n : Notes} (he : vE key = some (.code cf)) (hf : Try.prog.funcs[f]? = some fn) (hc : compFn Try.prog vTab fn n = some cf) : CodeAt (f, key) := fun cf' h => by
  rw [show vE (f, key).2 = some (.code cf) from he] at h
  cases h
  exact ⟨fn, n, hf, hc⟩
theorem no_code {f key : Nat} {g : List Ab.V → List (Option Ab.Obj) → Option (Ab.V × List (Option Ab.Obj))} (he : vE key = some (.prim g)) : CodeAt (f, key) := fun cf h => by
  rw [show vE (f, key).2 = some (.prim g) from he] at h
  cases h
theorem vCode : ∀ p ∈ vTab, CodeAt p := by
  simp only [vTab, List.forall_mem_cons]
  exact ⟨code_at rfl Try.func3 chk100, code_at rfl Try.func4 chk101, code_at rfl Try.func5 chk102, code_at rfl Try.func6 chk103, code_at rfl Try.func7 chk104, code_at rfl Try.func8 chk105, code_at rfl Try.func9 chk106, code_at rfl Try.func10 chk107, code_at rfl Try.func11 chk108, code_at rfl Try.func12 chk109, code_at rfl Try.func13 chk110, code_at rfl Try.func14 chk111, code_at rfl Try.func15 chk112, code_at rfl Try.func16 chk113, code_at rfl Try.func17 chk114, code_at rfl Try.func18 chk115, code_at rfl Try.func19 chk116, code_at rfl Try.func20 chk117, code_at rfl Try.func21 chk118, code_at rfl Try.func22 chk119, code_at rfl Try.func23 chk120, code_at rfl Try.func24 chk121, code_at rfl Try.func25 chk122, code_at rfl Try.func26 chk123, code_at rfl Try.func27 chk124, code_at rfl Try.func28 chk125, code_at rfl Try.func29 chk126, code_at rfl Try.func30 chk127, code_at rfl Try.func31 chk128, code_at rfl Try.func32 chk129, code_at rfl Try.func33 chk130, code_at rfl Try.func34 chk131, code_at rfl Try.func35 chk132, code_at rfl Try.func36 chk133, no_code rfl, code_at rfl Try.func38 chk135, code_at rfl Try.func39 chk136, code_at rfl Try.func40 chk137, code_at rfl Try.func41 chk138, code_at rfl Try.func42 chk139, code_at rfl Try.func43 chk140, code_at rfl Try.func44 chk141, code_at rfl Try.func45 chk142, code_at rfl Try.func46 chk143, code_at rfl Try.func47 chk144, code_at rfl Try.func48 chk145, no_code rfl, code_at rfl Try.func50 chk147, code_at rfl Try.func53 chk150, code_at rfl Try.func54 chk151, code_at rfl Try.func55 chk152, code_at rfl Try.func56 chk153, code_at rfl Try.func57 chk154, code_at rfl Try.func58 chk155, by simp⟩

def PrimAt (p : Nat × Nat) : Prop := ∀ g, vE p.2 = some (.prim g) → FnOk Try.prog vTab p.1 g
theorem no_prim {f key : Nat} {cf : CFn} (he : vE key = some (.code cf)) : PrimAt (f, key) := fun g h => by
  rw [show vE (f, key).2 = some (.code cf) from he] at h
  cases h
theorem vPrim : ∀ p ∈ vTab, PrimAt p := by
  simp only [vTab, List.forall_mem_cons]
  exact ⟨no_prim rfl, no_prim rfl, no_prim rfl, no_prim rfl, no_prim rfl, no_prim rfl, no_prim rfl, no_prim rfl, no_prim rfl, no_prim rfl, no_prim rfl, no_prim rfl, no_prim rfl, no_prim rfl, no_prim rfl, no_prim rfl, no_prim rfl, no_prim rfl, no_prim rfl, no_prim rfl, no_prim rfl, no_prim rfl, no_prim rfl, no_prim rfl, no_prim rfl, no_prim rfl, no_prim rfl, no_prim rfl, no_prim rfl, no_prim rfl, no_prim rfl, no_prim rfl, no_prim rfl, no_prim rfl, fun g h => by cases h; exact insert_ok vIns, no_prim rfl, no_prim rfl, no_prim rfl, no_prim rfl, no_prim rfl, no_prim rfl, no_prim rfl, no_prim rfl, no_prim rfl, no_prim rfl, no_prim rfl, fun g h => by cases h; exact clone_ok vCln, no_prim rfl, no_prim rfl, no_prim rfl, no_prim rfl, no_prim rfl, no_prim rfl, no_prim rfl, by simp⟩

theorem vTabOk : TabOk Try.prog vTab vE where
  body := fun f key h => vBody (f, key) (key_mem h)
  mixed := by kernel_rfl
  code := fun fid key cf h he => vCode (fid, key) (key_mem h) cf he
  prim := fun fid key g h he => vPrim (fid, key) (key_mem h) g he

theorem vValE : ValE vE := ⟨rfl, rfl, rfl, rfl, rfl, rfl, rfl, rfl, rfl, rfl, rfl, rfl, rfl, rfl, rfl, rfl, rfl, rfl, rfl, rfl, rfl, rfl, rfl, rfl, rfl, rfl, rfl, rfl, rfl, rfl, rfl, rfl, rfl, rfl, rfl, rfl, rfl, rfl, rfl, rfl, rfl, rfl, rfl, rfl, rfl, rfl, rfl⟩
theorem vValOk : ValOk vE := valOk vValE
end Go.Proofs.Ytbkffiolojmfoaa
