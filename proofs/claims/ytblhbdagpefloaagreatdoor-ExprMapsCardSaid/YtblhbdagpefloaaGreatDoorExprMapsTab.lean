/-
 ExprMaps: the table of the functions that are reached: each is what was compiled of it.
-/
import Derived.Test.YtblhbdagpefloaaGreatDoorRows
import Derived.ProofKit
import Derived.Test.YtblhbdagpefloaaGreatDoorPack3
import Derived.Test.YtblhbdagpefloaaGreatDoorExprMapsCode
import Derived.Test.YtblhbdagpefloaaGreatDoorTryzPrims
namespace Go.Proofs.YtblhbdagpefloaaGreatDoor
open Go Go.ChangeShapes Go.WideShapes Go.ChangeAt Go.RowKit Ab
set_option linter.unusedVariables false
set_option maxRecDepth 100000
noncomputable def vTab : Tab := { fns := [(9, 261), (12, 264), (17, 192), (19, 210), (22, 269), (24, 110), (25, 271), (26, 272), (32, 228), (34, 115), (35, 276), (36, 277), (42, 113), (46, 236), (47, 237), (48, 229), (49, 238), (50, 131), (51, 146), (52, 283), (53, 284), (54, 285), (55, 286), (56, 287), (57, 112), (63, 111), (64, 241), (65, 239), (66, 292), (67, 293), (68, 294), (69, 295), (70, 296), (71, 297), (72, 298), (73, 299), (74, 114), (75, 300), (76, 301), (77, 302), (78, 303), (79, 304), (80, 125), (90, 126), (91, 127), (92, 128), (93, 129), (94, 130), (95, 314), (96, 119), (97, 315), (98, 134), (99, 116), (100, 139), (101, 140), (102, 141), (103, 142), (113, 143), (114, 144), (115, 145), (116, 325), (117, 135), (118, 136), (119, 137), (122, 132), (123, 133), (124, 151), (125, 152), (126, 153), (127, 154), (128, 155), (137, 150), (139, 147)], rnds := [] }
theorem chk110 : compFn Tryz.prog vTab Tryz.f24 n110 = some (c110, []) := by kernel_rfl
theorem chk111 : compFn Tryz.prog vTab Tryz.f63 n111 = some (c111, []) := by kernel_rfl
theorem chk112 : compFn Tryz.prog vTab Tryz.f57 n112 = some (c112, []) := by kernel_rfl
theorem chk113 : compFn Tryz.prog vTab Tryz.f42 n113 = some (c113, []) := by kernel_rfl
theorem chk114 : compFn Tryz.prog vTab Tryz.f74 n114 = some (c114, []) := by kernel_rfl
theorem chk115 : compFn Tryz.prog vTab Tryz.f34 n115 = some (c115, []) := by kernel_rfl
theorem chk116 : compFn Tryz.prog vTab Tryz.f99 n116 = some (c116, []) := by kernel_rfl
theorem chk119 : compFn Tryz.prog vTab Tryz.f96 n119 = some (c119, []) := by kernel_rfl
theorem chk125 : compFn Tryz.prog vTab Tryz.f80 n125 = some (c125, []) := by kernel_rfl
theorem chk126 : compFn Tryz.prog vTab Tryz.f90 n126 = some (c126, []) := by kernel_rfl
theorem chk127 : compFn Tryz.prog vTab Tryz.f91 n127 = some (c127, []) := by kernel_rfl
theorem chk128 : compFn Tryz.prog vTab Tryz.f92 n128 = some (c128, []) := by kernel_rfl
theorem chk129 : compFn Tryz.prog vTab Tryz.f93 n129 = some (c129, []) := by kernel_rfl
theorem chk130 : compFn Tryz.prog vTab Tryz.f94 n130 = some (c130, []) := by kernel_rfl
theorem chk131 : compFn Tryz.prog vTab Tryz.f50 n131 = some (c131, []) := by kernel_rfl
theorem chk132 : compFn Tryz.prog vTab Tryz.f122 n132 = some (c132, []) := by kernel_rfl
theorem chk133 : compFn Tryz.prog vTab Tryz.f123 n133 = some (c133, []) := by kernel_rfl
theorem chk135 : compFn Tryz.prog vTab Tryz.f117 n135 = some (c135, []) := by kernel_rfl
theorem chk136 : compFn Tryz.prog vTab Tryz.f118 n136 = some (c136, []) := by kernel_rfl
theorem chk137 : compFn Tryz.prog vTab Tryz.f119 n137 = some (c137, []) := by kernel_rfl
theorem chk139 : compFn Tryz.prog vTab Tryz.f100 n139 = some (c139, []) := by kernel_rfl
theorem chk140 : compFn Tryz.prog vTab Tryz.f101 n140 = some (c140, []) := by kernel_rfl
theorem chk141 : compFn Tryz.prog vTab Tryz.f102 n141 = some (c141, []) := by kernel_rfl
theorem chk142 : compFn Tryz.prog vTab Tryz.f103 n142 = some (c142, []) := by kernel_rfl
theorem chk143 : compFn Tryz.prog vTab Tryz.f113 n143 = some (c143, []) := by kernel_rfl
theorem chk144 : compFn Tryz.prog vTab Tryz.f114 n144 = some (c144, []) := by kernel_rfl
theorem chk145 : compFn Tryz.prog vTab Tryz.f115 n145 = some (c145, []) := by kernel_rfl
theorem chk147 : compFn Tryz.prog vTab Tryz.f139 n147 = some (c147, []) := by kernel_rfl
theorem chk150 : compFn Tryz.prog vTab Tryz.f137 n150 = some (c150, []) := by kernel_rfl
theorem chk151 : compFn Tryz.prog vTab Tryz.f124 n151 = some (c151, []) := by kernel_rfl
theorem chk152 : compFn Tryz.prog vTab Tryz.f125 n152 = some (c152, []) := by kernel_rfl
theorem chk153 : compFn Tryz.prog vTab Tryz.f126 n153 = some (c153, []) := by kernel_rfl
theorem chk154 : compFn Tryz.prog vTab Tryz.f127 n154 = some (c154, []) := by kernel_rfl
theorem chk155 : compFn Tryz.prog vTab Tryz.f128 n155 = some (c155, []) := by kernel_rfl
theorem chk192 : compFn Tryz.prog vTab Tryz.f17 n192 = some (c192, []) := by kernel_rfl
theorem chk210 : compFn Tryz.prog vTab Tryz.f19 n210 = some (c210, []) := by kernel_rfl
theorem chk228 : compFn Tryz.prog vTab Tryz.f32 n228 = some (c228, []) := by kernel_rfl
theorem chk229 : compFn Tryz.prog vTab Tryz.f48 n229 = some (c229, []) := by kernel_rfl
theorem chk236 : compFn Tryz.prog vTab Tryz.f46 n236 = some (c236, []) := by kernel_rfl
theorem chk237 : compFn Tryz.prog vTab Tryz.f47 n237 = some (c237, []) := by kernel_rfl
theorem chk238 : compFn Tryz.prog vTab Tryz.f49 n238 = some (c238, []) := by kernel_rfl
theorem chk239 : compFn Tryz.prog vTab Tryz.f65 n239 = some (c239, []) := by kernel_rfl
theorem chk241 : compFn Tryz.prog vTab Tryz.f64 n241 = some (c241, []) := by kernel_rfl
theorem chk261 : compFn Tryz.prog vTab Tryz.f9 n261 = some (c261, []) := by kernel_rfl
theorem chk264 : compFn Tryz.prog vTab Tryz.f12 n264 = some (c264, []) := by kernel_rfl
theorem chk269 : compFn Tryz.prog vTab Tryz.f22 n269 = some (c269, []) := by kernel_rfl
theorem chk271 : compFn Tryz.prog vTab Tryz.f25 n271 = some (c271, []) := by kernel_rfl
theorem chk272 : compFn Tryz.prog vTab Tryz.f26 n272 = some (c272, []) := by kernel_rfl
theorem chk276 : compFn Tryz.prog vTab Tryz.f35 n276 = some (c276, []) := by kernel_rfl
theorem chk277 : compFn Tryz.prog vTab Tryz.f36 n277 = some (c277, []) := by kernel_rfl
theorem chk283 : compFn Tryz.prog vTab Tryz.f52 n283 = some (c283, []) := by kernel_rfl
theorem chk284 : compFn Tryz.prog vTab Tryz.f53 n284 = some (c284, []) := by kernel_rfl
theorem chk285 : compFn Tryz.prog vTab Tryz.f54 n285 = some (c285, []) := by kernel_rfl
theorem chk286 : compFn Tryz.prog vTab Tryz.f55 n286 = some (c286, []) := by kernel_rfl
theorem chk287 : compFn Tryz.prog vTab Tryz.f56 n287 = some (c287, []) := by kernel_rfl
theorem chk292 : compFn Tryz.prog vTab Tryz.f66 n292 = some (c292, []) := by kernel_rfl
theorem chk293 : compFn Tryz.prog vTab Tryz.f67 n293 = some (c293, []) := by kernel_rfl
theorem chk294 : compFn Tryz.prog vTab Tryz.f68 n294 = some (c294, []) := by kernel_rfl
theorem chk297 : compFn Tryz.prog vTab Tryz.f71 n297 = some (c297, []) := by kernel_rfl
theorem chk298 : compFn Tryz.prog vTab Tryz.f72 n298 = some (c298, []) := by kernel_rfl
theorem chk299 : compFn Tryz.prog vTab Tryz.f73 n299 = some (c299, []) := by kernel_rfl
theorem chk300 : compFn Tryz.prog vTab Tryz.f75 n300 = some (c300, []) := by kernel_rfl
theorem chk301 : compFn Tryz.prog vTab Tryz.f76 n301 = some (c301, []) := by kernel_rfl
theorem chk302 : compFn Tryz.prog vTab Tryz.f77 n302 = some (c302, []) := by kernel_rfl
theorem chk303 : compFn Tryz.prog vTab Tryz.f78 n303 = some (c303, []) := by kernel_rfl
theorem chk304 : compFn Tryz.prog vTab Tryz.f79 n304 = some (c304, []) := by kernel_rfl
theorem chk314 : compFn Tryz.prog vTab Tryz.f95 n314 = some (c314, []) := by kernel_rfl
theorem chk325 : compFn Tryz.prog vTab Tryz.f116 n325 = some (c325, []) := by kernel_rfl
theorem vBody : ∀ p ∈ vTab.fns, ∀ args w, (callFunc p.1 args).run Tryz.prog w = .ok (.enter p.1 args) w := by
 simp only [vTab, List.forall_mem_cons]
 exact ⟨Tryz.call9, Tryz.call12, Tryz.call17, Tryz.call19, Tryz.call22, Tryz.call24, Tryz.call25, Tryz.call26, Tryz.call32, Tryz.call34, Tryz.call35, Tryz.call36, Tryz.call42, Tryz.call46, Tryz.call47, Tryz.call48, Tryz.call49, Tryz.call50, Tryz.call51, Tryz.call52, Tryz.call53, Tryz.call54, Tryz.call55, Tryz.call56, Tryz.call57, Tryz.call63, Tryz.call64, Tryz.call65, Tryz.call66, Tryz.call67, Tryz.call68, Tryz.call69, Tryz.call70, Tryz.call71, Tryz.call72, Tryz.call73, Tryz.call74, Tryz.call75, Tryz.call76, Tryz.call77, Tryz.call78, Tryz.call79, Tryz.call80, Tryz.call90, Tryz.call91, Tryz.call92, Tryz.call93, Tryz.call94, Tryz.call95, Tryz.call96, Tryz.call97, Tryz.call98, Tryz.call99, Tryz.call100, Tryz.call101, Tryz.call102, Tryz.call103, Tryz.call113, Tryz.call114, Tryz.call115, Tryz.call116, Tryz.call117, Tryz.call118, Tryz.call119, Tryz.call122, Tryz.call123, Tryz.call124, Tryz.call125, Tryz.call126, Tryz.call127, Tryz.call128, Tryz.call137, Tryz.call139, by simp⟩
theorem vCode : ∀ p ∈ vTab.fns, CodeAt Tryz.prog vTab tF p := by
 simp only [vTab, List.forall_mem_cons]
 exact ⟨code_at0 (by kernel_rfl) Tryz.func9 chk261, code_at0 (by kernel_rfl) Tryz.func12 chk264, code_at0 (by kernel_rfl) Tryz.func17 chk192, code_at0 (by kernel_rfl) Tryz.func19 chk210, code_at0 (by kernel_rfl) Tryz.func22 chk269, code_at0 (by kernel_rfl) Tryz.func24 chk110, code_at0 (by kernel_rfl) Tryz.func25 chk271, code_at0 (by kernel_rfl) Tryz.func26 chk272, code_at0 (by kernel_rfl) Tryz.func32 chk228, code_at0 (by kernel_rfl) Tryz.func34 chk115, code_at0 (by kernel_rfl) Tryz.func35 chk276, code_at0 (by kernel_rfl) Tryz.func36 chk277, code_at0 (by kernel_rfl) Tryz.func42 chk113, code_at0 (by kernel_rfl) Tryz.func46 chk236, code_at0 (by kernel_rfl) Tryz.func47 chk237, code_at0 (by kernel_rfl) Tryz.func48 chk229, code_at0 (by kernel_rfl) Tryz.func49 chk238, code_at0 (by kernel_rfl) Tryz.func50 chk131, prim_at (by kernel_rfl) (clone_ok pCln), code_at0 (by kernel_rfl) Tryz.func52 chk283, code_at0 (by kernel_rfl) Tryz.func53 chk284, code_at0 (by kernel_rfl) Tryz.func54 chk285, code_at0 (by kernel_rfl) Tryz.func55 chk286, code_at0 (by kernel_rfl) Tryz.func56 chk287, code_at0 (by kernel_rfl) Tryz.func57 chk112, code_at0 (by kernel_rfl) Tryz.func63 chk111, code_at0 (by kernel_rfl) Tryz.func64 chk241, code_at0 (by kernel_rfl) Tryz.func65 chk239, code_at0 (by kernel_rfl) Tryz.func66 chk292, code_at0 (by kernel_rfl) Tryz.func67 chk293, code_at0 (by kernel_rfl) Tryz.func68 chk294, prim_at (by kernel_rfl) (trim_ok pTrm (by kernel_rfl)), prim_at (by kernel_rfl) (parse_ok pPar), code_at0 (by kernel_rfl) Tryz.func71 chk297, code_at0 (by kernel_rfl) Tryz.func72 chk298, code_at0 (by kernel_rfl) Tryz.func73 chk299, code_at0 (by kernel_rfl) Tryz.func74 chk114, code_at0 (by kernel_rfl) Tryz.func75 chk300, code_at0 (by kernel_rfl) Tryz.func76 chk301, code_at0 (by kernel_rfl) Tryz.func77 chk302, code_at0 (by kernel_rfl) Tryz.func78 chk303, code_at0 (by kernel_rfl) Tryz.func79 chk304, code_at0 (by kernel_rfl) Tryz.func80 chk125, code_at0 (by kernel_rfl) Tryz.func90 chk126, code_at0 (by kernel_rfl) Tryz.func91 chk127, code_at0 (by kernel_rfl) Tryz.func92 chk128, code_at0 (by kernel_rfl) Tryz.func93 chk129, code_at0 (by kernel_rfl) Tryz.func94 chk130, code_at0 (by kernel_rfl) Tryz.func95 chk314, code_at0 (by kernel_rfl) Tryz.func96 chk119, prim_at (by kernel_rfl) (delete_ok pDel), prim_at (by kernel_rfl) (insert_ok pIns), code_at0 (by kernel_rfl) Tryz.func99 chk116, code_at0 (by kernel_rfl) Tryz.func100 chk139, code_at0 (by kernel_rfl) Tryz.func101 chk140, code_at0 (by kernel_rfl) Tryz.func102 chk141, code_at0 (by kernel_rfl) Tryz.func103 chk142, code_at0 (by kernel_rfl) Tryz.func113 chk143, code_at0 (by kernel_rfl) Tryz.func114 chk144, code_at0 (by kernel_rfl) Tryz.func115 chk145, code_at0 (by kernel_rfl) Tryz.func116 chk325, code_at0 (by kernel_rfl) Tryz.func117 chk135, code_at0 (by kernel_rfl) Tryz.func118 chk136, code_at0 (by kernel_rfl) Tryz.func119 chk137, code_at0 (by kernel_rfl) Tryz.func122 chk132, code_at0 (by kernel_rfl) Tryz.func123 chk133, code_at0 (by kernel_rfl) Tryz.func124 chk151, code_at0 (by kernel_rfl) Tryz.func125 chk152, code_at0 (by kernel_rfl) Tryz.func126 chk153, code_at0 (by kernel_rfl) Tryz.func127 chk154, code_at0 (by kernel_rfl) Tryz.func128 chk155, code_at0 (by kernel_rfl) Tryz.func137 chk150, code_at0 (by kernel_rfl) Tryz.func139 chk147, fun p h => by cases h⟩
theorem vRnd : ∀ p ∈ vTab.rnds, RndAt Tryz.prog vTab tF p := by
 exact fun p h => absurd h List.not_mem_nil
theorem vTabOk : TabOk Tryz.prog vTab tF := tab_ok vBody (by kernel_rfl) vCode vRnd
theorem trod_len {H : Type} {P : Program} {enc : TypeId × Value → H} {W : World} {sp : Nat → Bool} : ∀ {ts : List TypeId} {vs : List Value} {ds : List (DataW H)} {ps : List MemPlace}, DataW.TrodAll enc P W 0 sp true ts vs ds ps → ds.length = ts.length
 | [], [], [], ps, _ => rfl
 | t :: ts, v :: vs, d :: ds, ps, ⟨p, q, h1, h2, e⟩ => by simp [trod_len h2]
 | [], [], _ :: _, _, h => h.elim
 | [], _ :: _, _, _, h => h.elim
 | _ :: _, [], _, _, h => h.elim
 | _ :: _, _ :: _, [], _, h => h.elim
theorem own : ownKnob Tryz.prog.godebug = none := by kernel_rfl
theorem laidOut : laidOutB Tryz.prog = true := by kernel_rfl
end Go.Proofs.YtblhbdagpefloaaGreatDoor
