/-
 CircForms: the table of the functions that are reached: each is what was compiled of it.
-/
import Derived.Test.YtdbjkmciidcanaaRows
import Derived.ProofKit
import Derived.Test.YtdbjkmciidcanaaPack4
import Derived.Test.YtdbjkmciidcanaaText0
namespace Go.Proofs.Ytdbjkmciidcanaa
open Go Go.ChangeShapes Go.WideShapes Go.ChangeAt Go.RowKit Ab
set_option linter.unusedVariables false
set_option maxRecDepth 100000
noncomputable def vTab : Tab := { fns := [(8, 164), (14, 169), (15, 170), (17, 172), (22, 177), (23, 178), (24, 179), (25, 180), (26, 181), (27, 182), (30, 184), (31, 185), (32, 186), (33, 187), (34, 188), (35, 189), (36, 190), (37, 191), (38, 192), (39, 193), (40, 194), (41, 195), (42, 196), (43, 197), (44, 198), (45, 199), (46, 200), (47, 201), (48, 202), (49, 203), (50, 204), (51, 205), (52, 206), (53, 207), (54, 208), (55, 209), (56, 210), (57, 211), (58, 212), (59, 213), (60, 214), (61, 215), (62, 216), (63, 217), (64, 218), (65, 219), (66, 220), (67, 221), (68, 222), (69, 223), (70, 224), (71, 225), (72, 226), (73, 227), (74, 228), (75, 229), (76, 230), (77, 231), (78, 232), (79, 233), (80, 234), (81, 235), (82, 236), (83, 237), (84, 238), (85, 239), (86, 240), (87, 111), (88, 241), (89, 112), (90, 125), (91, 139), (92, 140), (93, 141), (94, 142), (95, 151), (96, 114), (97, 152), (98, 153), (99, 154), (100, 129), (101, 137), (102, 155), (103, 126), (104, 127), (105, 128), (106, 130), (107, 145), (108, 143), (109, 144)], rnds := [] }
theorem chk111 : compFn Try.prog vTab Try.f87 n111 = some (c111, []) := by kernel_rfl
theorem chk112 : compFn Try.prog vTab Try.f89 n112 = some (c112, []) := by kernel_rfl
theorem chk114 : compFn Try.prog vTab Try.f96 n114 = some (c114, []) := by kernel_rfl
theorem chk125 : compFn Try.prog vTab Try.f90 n125 = some (c125, []) := by kernel_rfl
theorem chk126 : compFn Try.prog vTab Try.f103 n126 = some (c126, []) := by kernel_rfl
theorem chk127 : compFn Try.prog vTab Try.f104 n127 = some (c127, []) := by kernel_rfl
theorem chk128 : compFn Try.prog vTab Try.f105 n128 = some (c128, []) := by kernel_rfl
theorem chk129 : compFn Try.prog vTab Try.f100 n129 = some (c129, []) := by kernel_rfl
theorem chk130 : compFn Try.prog vTab Try.f106 n130 = some (c130, []) := by kernel_rfl
theorem chk137 : compFn Try.prog vTab Try.f101 n137 = some (c137, []) := by kernel_rfl
theorem chk139 : compFn Try.prog vTab Try.f91 n139 = some (c139, []) := by kernel_rfl
theorem chk140 : compFn Try.prog vTab Try.f92 n140 = some (c140, []) := by kernel_rfl
theorem chk141 : compFn Try.prog vTab Try.f93 n141 = some (c141, []) := by kernel_rfl
theorem chk142 : compFn Try.prog vTab Try.f94 n142 = some (c142, []) := by kernel_rfl
theorem chk143 : compFn Try.prog vTab Try.f108 n143 = some (c143, []) := by kernel_rfl
theorem chk144 : compFn Try.prog vTab Try.f109 n144 = some (c144, []) := by kernel_rfl
theorem chk145 : compFn Try.prog vTab Try.f107 n145 = some (c145, []) := by kernel_rfl
theorem chk151 : compFn Try.prog vTab Try.f95 n151 = some (c151, []) := by kernel_rfl
theorem chk152 : compFn Try.prog vTab Try.f97 n152 = some (c152, []) := by kernel_rfl
theorem chk153 : compFn Try.prog vTab Try.f98 n153 = some (c153, []) := by kernel_rfl
theorem chk154 : compFn Try.prog vTab Try.f99 n154 = some (c154, []) := by kernel_rfl
theorem chk155 : compFn Try.prog vTab Try.f102 n155 = some (c155, []) := by kernel_rfl
theorem chk164 : compFn Try.prog vTab Try.f8 n164 = some (c164, []) := by kernel_rfl
theorem chk169 : compFn Try.prog vTab Try.f14 n169 = some (c169, []) := by kernel_rfl
theorem chk170 : compFn Try.prog vTab Try.f15 n170 = some (c170, []) := by kernel_rfl
theorem chk172 : compFn Try.prog vTab Try.f17 n172 = some (c172, []) := by kernel_rfl
theorem chk177 : compFn Try.prog vTab Try.f22 n177 = some (c177, []) := by kernel_rfl
theorem chk178 : compFn Try.prog vTab Try.f23 n178 = some (c178, []) := by kernel_rfl
theorem chk179 : compFn Try.prog vTab Try.f24 n179 = some (c179, []) := by kernel_rfl
theorem chk180 : compFn Try.prog vTab Try.f25 n180 = some (c180, []) := by kernel_rfl
theorem chk181 : compFn Try.prog vTab Try.f26 n181 = some (c181, []) := by kernel_rfl
theorem chk182 : compFn Try.prog vTab Try.f27 n182 = some (c182, []) := by kernel_rfl
theorem chk184 : compFn Try.prog vTab Try.f30 n184 = some (c184, []) := by kernel_rfl
theorem chk185 : compFn Try.prog vTab Try.f31 n185 = some (c185, []) := by kernel_rfl
theorem chk186 : compFn Try.prog vTab Try.f32 n186 = some (c186, []) := by kernel_rfl
theorem chk187 : compFn Try.prog vTab Try.f33 n187 = some (c187, []) := by kernel_rfl
theorem chk188 : compFn Try.prog vTab Try.f34 n188 = some (c188, []) := by kernel_rfl
theorem chk189 : compFn Try.prog vTab Try.f35 n189 = some (c189, []) := by kernel_rfl
theorem chk190 : compFn Try.prog vTab Try.f36 n190 = some (c190, []) := by kernel_rfl
theorem chk191 : compFn Try.prog vTab Try.f37 n191 = some (c191, []) := by kernel_rfl
theorem chk192 : compFn Try.prog vTab Try.f38 n192 = some (c192, []) := by kernel_rfl
theorem chk193 : compFn Try.prog vTab Try.f39 n193 = some (c193, []) := by kernel_rfl
theorem chk194 : compFn Try.prog vTab Try.f40 n194 = some (c194, []) := by kernel_rfl
theorem chk195 : compFn Try.prog vTab Try.f41 n195 = some (c195, []) := by kernel_rfl
theorem chk197 : compFn Try.prog vTab Try.f43 n197 = some (c197, []) := by kernel_rfl
theorem chk198 : compFn Try.prog vTab Try.f44 n198 = some (c198, []) := by kernel_rfl
theorem chk199 : compFn Try.prog vTab Try.f45 n199 = some (c199, []) := by kernel_rfl
theorem chk200 : compFn Try.prog vTab Try.f46 n200 = some (c200, []) := by kernel_rfl
theorem chk201 : compFn Try.prog vTab Try.f47 n201 = some (c201, []) := by kernel_rfl
theorem chk202 : compFn Try.prog vTab Try.f48 n202 = some (c202, []) := by kernel_rfl
theorem chk203 : compFn Try.prog vTab Try.f49 n203 = some (c203, []) := by kernel_rfl
theorem chk204 : compFn Try.prog vTab Try.f50 n204 = some (c204, []) := by kernel_rfl
theorem chk205 : compFn Try.prog vTab Try.f51 n205 = some (c205, []) := by kernel_rfl
theorem chk206 : compFn Try.prog vTab Try.f52 n206 = some (c206, []) := by kernel_rfl
theorem chk207 : compFn Try.prog vTab Try.f53 n207 = some (c207, []) := by kernel_rfl
theorem chk208 : compFn Try.prog vTab Try.f54 n208 = some (c208, []) := by kernel_rfl
theorem chk209 : compFn Try.prog vTab Try.f55 n209 = some (c209, []) := by kernel_rfl
theorem chk210 : compFn Try.prog vTab Try.f56 n210 = some (c210, []) := by kernel_rfl
theorem chk211 : compFn Try.prog vTab Try.f57 n211 = some (c211, []) := by kernel_rfl
theorem chk212 : compFn Try.prog vTab Try.f58 n212 = some (c212, []) := by kernel_rfl
theorem chk213 : compFn Try.prog vTab Try.f59 n213 = some (c213, []) := by kernel_rfl
theorem chk214 : compFn Try.prog vTab Try.f60 n214 = some (c214, []) := by kernel_rfl
theorem chk215 : compFn Try.prog vTab Try.f61 n215 = some (c215, []) := by kernel_rfl
theorem chk216 : compFn Try.prog vTab Try.f62 n216 = some (c216, []) := by kernel_rfl
theorem chk217 : compFn Try.prog vTab Try.f63 n217 = some (c217, []) := by kernel_rfl
theorem chk218 : compFn Try.prog vTab Try.f64 n218 = some (c218, []) := by kernel_rfl
theorem chk219 : compFn Try.prog vTab Try.f65 n219 = some (c219, []) := by kernel_rfl
theorem chk220 : compFn Try.prog vTab Try.f66 n220 = some (c220, []) := by kernel_rfl
theorem chk221 : compFn Try.prog vTab Try.f67 n221 = some (c221, []) := by kernel_rfl
theorem chk222 : compFn Try.prog vTab Try.f68 n222 = some (c222, []) := by kernel_rfl
theorem chk223 : compFn Try.prog vTab Try.f69 n223 = some (c223, []) := by kernel_rfl
theorem chk224 : compFn Try.prog vTab Try.f70 n224 = some (c224, []) := by kernel_rfl
theorem chk225 : compFn Try.prog vTab Try.f71 n225 = some (c225, []) := by kernel_rfl
theorem chk226 : compFn Try.prog vTab Try.f72 n226 = some (c226, []) := by kernel_rfl
theorem chk227 : compFn Try.prog vTab Try.f73 n227 = some (c227, []) := by kernel_rfl
theorem chk228 : compFn Try.prog vTab Try.f74 n228 = some (c228, []) := by kernel_rfl
theorem chk229 : compFn Try.prog vTab Try.f75 n229 = some (c229, []) := by kernel_rfl
theorem chk230 : compFn Try.prog vTab Try.f76 n230 = some (c230, []) := by kernel_rfl
theorem chk231 : compFn Try.prog vTab Try.f77 n231 = some (c231, []) := by kernel_rfl
theorem chk232 : compFn Try.prog vTab Try.f78 n232 = some (c232, []) := by kernel_rfl
theorem chk233 : compFn Try.prog vTab Try.f79 n233 = some (c233, []) := by kernel_rfl
theorem chk234 : compFn Try.prog vTab Try.f80 n234 = some (c234, []) := by kernel_rfl
theorem chk235 : compFn Try.prog vTab Try.f81 n235 = some (c235, []) := by kernel_rfl
theorem chk236 : compFn Try.prog vTab Try.f82 n236 = some (c236, []) := by kernel_rfl
theorem chk237 : compFn Try.prog vTab Try.f83 n237 = some (c237, []) := by kernel_rfl
theorem chk238 : compFn Try.prog vTab Try.f84 n238 = some (c238, []) := by kernel_rfl
theorem chk239 : compFn Try.prog vTab Try.f85 n239 = some (c239, []) := by kernel_rfl
theorem chk240 : compFn Try.prog vTab Try.f86 n240 = some (c240, []) := by kernel_rfl
theorem chk241 : compFn Try.prog vTab Try.f88 n241 = some (c241, []) := by kernel_rfl
theorem vBody : ∀ p ∈ vTab.fns, ∀ args w, (callFunc p.1 args).run Try.prog w = .ok (.enter p.1 args) w := by
 simp only [vTab, List.forall_mem_cons]
 exact ⟨Try.call8, Try.call14, Try.call15, Try.call17, Try.call22, Try.call23, Try.call24, Try.call25, Try.call26, Try.call27, Try.call30, Try.call31, Try.call32, Try.call33, Try.call34, Try.call35, Try.call36, Try.call37, Try.call38, Try.call39, Try.call40, Try.call41, Try.call42, Try.call43, Try.call44, Try.call45, Try.call46, Try.call47, Try.call48, Try.call49, Try.call50, Try.call51, Try.call52, Try.call53, Try.call54, Try.call55, Try.call56, Try.call57, Try.call58, Try.call59, Try.call60, Try.call61, Try.call62, Try.call63, Try.call64, Try.call65, Try.call66, Try.call67, Try.call68, Try.call69, Try.call70, Try.call71, Try.call72, Try.call73, Try.call74, Try.call75, Try.call76, Try.call77, Try.call78, Try.call79, Try.call80, Try.call81, Try.call82, Try.call83, Try.call84, Try.call85, Try.call86, Try.call87, Try.call88, Try.call89, Try.call90, Try.call91, Try.call92, Try.call93, Try.call94, Try.call95, Try.call96, Try.call97, Try.call98, Try.call99, Try.call100, Try.call101, Try.call102, Try.call103, Try.call104, Try.call105, Try.call106, Try.call107, Try.call108, Try.call109, by simp⟩
theorem vCode : ∀ p ∈ vTab.fns, CodeAt Try.prog vTab tF p := by
 simp only [vTab, List.forall_mem_cons]
 exact ⟨code_at0 (by kernel_rfl) Try.func8 chk164, code_at0 (by kernel_rfl) Try.func14 chk169, code_at0 (by kernel_rfl) Try.func15 chk170, code_at0 (by kernel_rfl) Try.func17 chk172, code_at0 (by kernel_rfl) Try.func22 chk177, code_at0 (by kernel_rfl) Try.func23 chk178, code_at0 (by kernel_rfl) Try.func24 chk179, code_at0 (by kernel_rfl) Try.func25 chk180, code_at0 (by kernel_rfl) Try.func26 chk181, code_at0 (by kernel_rfl) Try.func27 chk182, code_at0 (by kernel_rfl) Try.func30 chk184, code_at0 (by kernel_rfl) Try.func31 chk185, code_at0 (by kernel_rfl) Try.func32 chk186, code_at0 (by kernel_rfl) Try.func33 chk187, code_at0 (by kernel_rfl) Try.func34 chk188, code_at0 (by kernel_rfl) Try.func35 chk189, code_at0 (by kernel_rfl) Try.func36 chk190, code_at0 (by kernel_rfl) Try.func37 chk191, code_at0 (by kernel_rfl) Try.func38 chk192, code_at0 (by kernel_rfl) Try.func39 chk193, code_at0 (by kernel_rfl) Try.func40 chk194, code_at0 (by kernel_rfl) Try.func41 chk195, prim_at (by kernel_rfl) (Ci.reach_ok (body_ok vBody) (by kernel_rfl) Try.func42 (notes := Ci.reachN) (by kernel_rfl)), code_at0 (by kernel_rfl) Try.func43 chk197, code_at0 (by kernel_rfl) Try.func44 chk198, code_at0 (by kernel_rfl) Try.func45 chk199, code_at0 (by kernel_rfl) Try.func46 chk200, code_at0 (by kernel_rfl) Try.func47 chk201, code_at0 (by kernel_rfl) Try.func48 chk202, code_at0 (by kernel_rfl) Try.func49 chk203, code_at0 (by kernel_rfl) Try.func50 chk204, code_at0 (by kernel_rfl) Try.func51 chk205, code_at0 (by kernel_rfl) Try.func52 chk206, code_at0 (by kernel_rfl) Try.func53 chk207, code_at0 (by kernel_rfl) Try.func54 chk208, code_at0 (by kernel_rfl) Try.func55 chk209, code_at0 (by kernel_rfl) Try.func56 chk210, code_at0 (by kernel_rfl) Try.func57 chk211, code_at0 (by kernel_rfl) Try.func58 chk212, code_at0 (by kernel_rfl) Try.func59 chk213, code_at0 (by kernel_rfl) Try.func60 chk214, code_at0 (by kernel_rfl) Try.func61 chk215, code_at0 (by kernel_rfl) Try.func62 chk216, code_at0 (by kernel_rfl) Try.func63 chk217, code_at0 (by kernel_rfl) Try.func64 chk218, code_at0 (by kernel_rfl) Try.func65 chk219, code_at0 (by kernel_rfl) Try.func66 chk220, code_at0 (by kernel_rfl) Try.func67 chk221, code_at0 (by kernel_rfl) Try.func68 chk222, code_at0 (by kernel_rfl) Try.func69 chk223, code_at0 (by kernel_rfl) Try.func70 chk224, code_at0 (by kernel_rfl) Try.func71 chk225, code_at0 (by kernel_rfl) Try.func72 chk226, code_at0 (by kernel_rfl) Try.func73 chk227, code_at0 (by kernel_rfl) Try.func74 chk228, code_at0 (by kernel_rfl) Try.func75 chk229, code_at0 (by kernel_rfl) Try.func76 chk230, code_at0 (by kernel_rfl) Try.func77 chk231, code_at0 (by kernel_rfl) Try.func78 chk232, code_at0 (by kernel_rfl) Try.func79 chk233, code_at0 (by kernel_rfl) Try.func80 chk234, code_at0 (by kernel_rfl) Try.func81 chk235, code_at0 (by kernel_rfl) Try.func82 chk236, code_at0 (by kernel_rfl) Try.func83 chk237, code_at0 (by kernel_rfl) Try.func84 chk238, code_at0 (by kernel_rfl) Try.func85 chk239, code_at0 (by kernel_rfl) Try.func86 chk240, code_at0 (by kernel_rfl) Try.func87 chk111, code_at0 (by kernel_rfl) Try.func88 chk241, code_at0 (by kernel_rfl) Try.func89 chk112, code_at0 (by kernel_rfl) Try.func90 chk125, code_at0 (by kernel_rfl) Try.func91 chk139, code_at0 (by kernel_rfl) Try.func92 chk140, code_at0 (by kernel_rfl) Try.func93 chk141, code_at0 (by kernel_rfl) Try.func94 chk142, code_at0 (by kernel_rfl) Try.func95 chk151, code_at0 (by kernel_rfl) Try.func96 chk114, code_at0 (by kernel_rfl) Try.func97 chk152, code_at0 (by kernel_rfl) Try.func98 chk153, code_at0 (by kernel_rfl) Try.func99 chk154, code_at0 (by kernel_rfl) Try.func100 chk129, code_at0 (by kernel_rfl) Try.func101 chk137, code_at0 (by kernel_rfl) Try.func102 chk155, code_at0 (by kernel_rfl) Try.func103 chk126, code_at0 (by kernel_rfl) Try.func104 chk127, code_at0 (by kernel_rfl) Try.func105 chk128, code_at0 (by kernel_rfl) Try.func106 chk130, code_at0 (by kernel_rfl) Try.func107 chk145, code_at0 (by kernel_rfl) Try.func108 chk143, code_at0 (by kernel_rfl) Try.func109 chk144, fun p h => by cases h⟩
theorem vRnd : ∀ p ∈ vTab.rnds, RndAt Try.prog vTab tF p := by
 exact fun p h => absurd h List.not_mem_nil
theorem vTabOk : TabOk Try.prog vTab tF := tab_ok vBody (by kernel_rfl) vCode vRnd
theorem trod_len {H : Type} {P : Program} {enc : TypeId × Value → H} {W : World} {sp : Nat → Bool} : ∀ {ts : List TypeId} {vs : List Value} {ds : List (DataW H)} {ps : List MemPlace}, DataW.TrodAll enc P W 0 sp true ts vs ds ps → ds.length = ts.length
 | [], [], [], ps, _ => rfl
 | t :: ts, v :: vs, d :: ds, ps, ⟨p, q, h1, h2, e⟩ => by simp [trod_len h2]
 | [], [], _ :: _, _, h => h.elim
 | [], _ :: _, _, _, h => h.elim
 | _ :: _, [], _, _, h => h.elim
 | _ :: _, _ :: _, [], _, h => h.elim
theorem own : ownKnob Try.prog.godebug = none := by kernel_rfl
theorem laidOut : laidOutB Try.prog = true := by kernel_rfl
end Go.Proofs.Ytdbjkmciidcanaa
