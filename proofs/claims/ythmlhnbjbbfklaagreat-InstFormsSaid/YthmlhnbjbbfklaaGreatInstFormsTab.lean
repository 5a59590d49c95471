/-
 InstForms: the table of the functions that are reached: each is what was compiled of it.
-/
import Derived.Test.YthmlhnbjbbfklaaGreatRows
import Derived.ProofKit
import Derived.Test.YthmlhnbjbbfklaaGreatPack3
import Derived.Test.YthmlhnbjbbfklaaGreatText0
namespace Go.Proofs.YthmlhnbjbbfklaaGreat
open Go Go.ChangeShapes Go.WideShapes Go.ChangeAt Go.RowKit Ab
set_option linter.unusedVariables false
set_option maxRecDepth 100000
noncomputable def r10373 : Round := mkRnd Tryz.f12 [0] [2, 4]
noncomputable def vTab : Tab := { fns := [(5, 366), (7, 368), (9, 370), (11, 372), (12, 373), (13, 374), (15, 376), (18, 379), (20, 108), (22, 380), (23, 381), (25, 170), (26, 383), (27, 384), (30, 387), (31, 388), (32, 181), (33, 389), (35, 192), (36, 391), (38, 123), (40, 393), (41, 394), (42, 395), (43, 396), (45, 188), (46, 189), (47, 190), (48, 398), (49, 399), (50, 400), (51, 401), (54, 169), (55, 404), (56, 405), (57, 197), (58, 406), (59, 182), (60, 407), (61, 408), (64, 410), (67, 412), (68, 413), (69, 414), (71, 416), (72, 417), (78, 184), (79, 185), (80, 186), (81, 187), (82, 422), (83, 423), (84, 424), (85, 425), (86, 426), (87, 427), (88, 235), (89, 428), (90, 429), (91, 430), (92, 431), (94, 198), (95, 199), (96, 200), (97, 201), (98, 202), (99, 203), (100, 204), (101, 205), (102, 206), (103, 207), (104, 208), (105, 209), (106, 210), (107, 211), (108, 212), (109, 213), (110, 214), (111, 432), (112, 433), (113, 434), (114, 435), (115, 436), (118, 216), (119, 217), (120, 218), (121, 219), (122, 220), (123, 221), (124, 222), (125, 223), (126, 224), (127, 225), (128, 226), (129, 227), (130, 228), (131, 229), (132, 230), (133, 231), (134, 232), (135, 437), (138, 233), (139, 234), (140, 236), (141, 237), (142, 238), (143, 239), (144, 240), (145, 438), (147, 111), (148, 241), (149, 439), (150, 440), (151, 112), (152, 125), (153, 441), (154, 139), (155, 140), (156, 141), (157, 142), (158, 151), (159, 114), (160, 152), (161, 153), (162, 154), (163, 129), (164, 137), (165, 155), (166, 126), (167, 127), (168, 128), (169, 130), (170, 145), (171, 143), (172, 144)], rnds := [(10373, r10373)] }
theorem chk108 : compFn Tryz.prog vTab Tryz.f20 n108 = some (c108, []) := by kernel_rfl
theorem chk111 : compFn Tryz.prog vTab Tryz.f147 n111 = some (c111, []) := by kernel_rfl
theorem chk112 : compFn Tryz.prog vTab Tryz.f151 n112 = some (c112, []) := by kernel_rfl
theorem chk114 : compFn Tryz.prog vTab Tryz.f159 n114 = some (c114, []) := by kernel_rfl
theorem chk123 : compFn Tryz.prog vTab Tryz.f38 n123 = some (c123, []) := by kernel_rfl
theorem chk125 : compFn Tryz.prog vTab Tryz.f152 n125 = some (c125, []) := by kernel_rfl
theorem chk126 : compFn Tryz.prog vTab Tryz.f166 n126 = some (c126, []) := by kernel_rfl
theorem chk127 : compFn Tryz.prog vTab Tryz.f167 n127 = some (c127, []) := by kernel_rfl
theorem chk128 : compFn Tryz.prog vTab Tryz.f168 n128 = some (c128, []) := by kernel_rfl
theorem chk129 : compFn Tryz.prog vTab Tryz.f163 n129 = some (c129, []) := by kernel_rfl
theorem chk130 : compFn Tryz.prog vTab Tryz.f169 n130 = some (c130, []) := by kernel_rfl
theorem chk137 : compFn Tryz.prog vTab Tryz.f164 n137 = some (c137, []) := by kernel_rfl
theorem chk139 : compFn Tryz.prog vTab Tryz.f154 n139 = some (c139, []) := by kernel_rfl
theorem chk140 : compFn Tryz.prog vTab Tryz.f155 n140 = some (c140, []) := by kernel_rfl
theorem chk141 : compFn Tryz.prog vTab Tryz.f156 n141 = some (c141, []) := by kernel_rfl
theorem chk142 : compFn Tryz.prog vTab Tryz.f157 n142 = some (c142, []) := by kernel_rfl
theorem chk143 : compFn Tryz.prog vTab Tryz.f171 n143 = some (c143, []) := by kernel_rfl
theorem chk144 : compFn Tryz.prog vTab Tryz.f172 n144 = some (c144, []) := by kernel_rfl
theorem chk145 : compFn Tryz.prog vTab Tryz.f170 n145 = some (c145, []) := by kernel_rfl
theorem chk151 : compFn Tryz.prog vTab Tryz.f158 n151 = some (c151, []) := by kernel_rfl
theorem chk152 : compFn Tryz.prog vTab Tryz.f160 n152 = some (c152, []) := by kernel_rfl
theorem chk153 : compFn Tryz.prog vTab Tryz.f161 n153 = some (c153, []) := by kernel_rfl
theorem chk154 : compFn Tryz.prog vTab Tryz.f162 n154 = some (c154, []) := by kernel_rfl
theorem chk155 : compFn Tryz.prog vTab Tryz.f165 n155 = some (c155, []) := by kernel_rfl
theorem chk169 : compFn Tryz.prog vTab Tryz.f54 n169 = some (c169, []) := by kernel_rfl
theorem chk170 : compFn Tryz.prog vTab Tryz.f25 n170 = some (c170, []) := by kernel_rfl
theorem chk181 : compFn Tryz.prog vTab Tryz.f32 n181 = some (c181, []) := by kernel_rfl
theorem chk182 : compFn Tryz.prog vTab Tryz.f59 n182 = some (c182, []) := by kernel_rfl
theorem chk184 : compFn Tryz.prog vTab Tryz.f78 n184 = some (c184, []) := by kernel_rfl
theorem chk185 : compFn Tryz.prog vTab Tryz.f79 n185 = some (c185, []) := by kernel_rfl
theorem chk186 : compFn Tryz.prog vTab Tryz.f80 n186 = some (c186, []) := by kernel_rfl
theorem chk187 : compFn Tryz.prog vTab Tryz.f81 n187 = some (c187, []) := by kernel_rfl
theorem chk188 : compFn Tryz.prog vTab Tryz.f45 n188 = some (c188, []) := by kernel_rfl
theorem chk189 : compFn Tryz.prog vTab Tryz.f46 n189 = some (c189, []) := by kernel_rfl
theorem chk190 : compFn Tryz.prog vTab Tryz.f47 n190 = some (c190, []) := by kernel_rfl
theorem chk192 : compFn Tryz.prog vTab Tryz.f35 n192 = some (c192, []) := by kernel_rfl
theorem chk197 : compFn Tryz.prog vTab Tryz.f57 n197 = some (c197, []) := by kernel_rfl
theorem chk198 : compFn Tryz.prog vTab Tryz.f94 n198 = some (c198, []) := by kernel_rfl
theorem chk199 : compFn Tryz.prog vTab Tryz.f95 n199 = some (c199, []) := by kernel_rfl
theorem chk200 : compFn Tryz.prog vTab Tryz.f96 n200 = some (c200, []) := by kernel_rfl
theorem chk201 : compFn Tryz.prog vTab Tryz.f97 n201 = some (c201, []) := by kernel_rfl
theorem chk202 : compFn Tryz.prog vTab Tryz.f98 n202 = some (c202, []) := by kernel_rfl
theorem chk203 : compFn Tryz.prog vTab Tryz.f99 n203 = some (c203, []) := by kernel_rfl
theorem chk204 : compFn Tryz.prog vTab Tryz.f100 n204 = some (c204, []) := by kernel_rfl
theorem chk205 : compFn Tryz.prog vTab Tryz.f101 n205 = some (c205, []) := by kernel_rfl
theorem chk206 : compFn Tryz.prog vTab Tryz.f102 n206 = some (c206, []) := by kernel_rfl
theorem chk207 : compFn Tryz.prog vTab Tryz.f103 n207 = some (c207, []) := by kernel_rfl
theorem chk208 : compFn Tryz.prog vTab Tryz.f104 n208 = some (c208, []) := by kernel_rfl
theorem chk209 : compFn Tryz.prog vTab Tryz.f105 n209 = some (c209, []) := by kernel_rfl
theorem chk210 : compFn Tryz.prog vTab Tryz.f106 n210 = some (c210, []) := by kernel_rfl
theorem chk211 : compFn Tryz.prog vTab Tryz.f107 n211 = some (c211, []) := by kernel_rfl
theorem chk212 : compFn Tryz.prog vTab Tryz.f108 n212 = some (c212, []) := by kernel_rfl
theorem chk213 : compFn Tryz.prog vTab Tryz.f109 n213 = some (c213, []) := by kernel_rfl
theorem chk214 : compFn Tryz.prog vTab Tryz.f110 n214 = some (c214, []) := by kernel_rfl
theorem chk216 : compFn Tryz.prog vTab Tryz.f118 n216 = some (c216, []) := by kernel_rfl
theorem chk217 : compFn Tryz.prog vTab Tryz.f119 n217 = some (c217, []) := by kernel_rfl
theorem chk218 : compFn Tryz.prog vTab Tryz.f120 n218 = some (c218, []) := by kernel_rfl
theorem chk219 : compFn Tryz.prog vTab Tryz.f121 n219 = some (c219, []) := by kernel_rfl
theorem chk220 : compFn Tryz.prog vTab Tryz.f122 n220 = some (c220, []) := by kernel_rfl
theorem chk221 : compFn Tryz.prog vTab Tryz.f123 n221 = some (c221, []) := by kernel_rfl
theorem chk222 : compFn Tryz.prog vTab Tryz.f124 n222 = some (c222, []) := by kernel_rfl
theorem chk223 : compFn Tryz.prog vTab Tryz.f125 n223 = some (c223, []) := by kernel_rfl
theorem chk224 : compFn Tryz.prog vTab Tryz.f126 n224 = some (c224, []) := by kernel_rfl
theorem chk225 : compFn Tryz.prog vTab Tryz.f127 n225 = some (c225, []) := by kernel_rfl
theorem chk226 : compFn Tryz.prog vTab Tryz.f128 n226 = some (c226, []) := by kernel_rfl
theorem chk227 : compFn Tryz.prog vTab Tryz.f129 n227 = some (c227, []) := by kernel_rfl
theorem chk228 : compFn Tryz.prog vTab Tryz.f130 n228 = some (c228, []) := by kernel_rfl
theorem chk229 : compFn Tryz.prog vTab Tryz.f131 n229 = some (c229, []) := by kernel_rfl
theorem chk230 : compFn Tryz.prog vTab Tryz.f132 n230 = some (c230, []) := by kernel_rfl
theorem chk231 : compFn Tryz.prog vTab Tryz.f133 n231 = some (c231, []) := by kernel_rfl
theorem chk232 : compFn Tryz.prog vTab Tryz.f134 n232 = some (c232, []) := by kernel_rfl
theorem chk233 : compFn Tryz.prog vTab Tryz.f138 n233 = some (c233, []) := by kernel_rfl
theorem chk234 : compFn Tryz.prog vTab Tryz.f139 n234 = some (c234, []) := by kernel_rfl
theorem chk235 : compFn Tryz.prog vTab Tryz.f88 n235 = some (c235, []) := by kernel_rfl
theorem chk236 : compFn Tryz.prog vTab Tryz.f140 n236 = some (c236, []) := by kernel_rfl
theorem chk237 : compFn Tryz.prog vTab Tryz.f141 n237 = some (c237, []) := by kernel_rfl
theorem chk238 : compFn Tryz.prog vTab Tryz.f142 n238 = some (c238, []) := by kernel_rfl
theorem chk239 : compFn Tryz.prog vTab Tryz.f143 n239 = some (c239, []) := by kernel_rfl
theorem chk240 : compFn Tryz.prog vTab Tryz.f144 n240 = some (c240, []) := by kernel_rfl
theorem chk241 : compFn Tryz.prog vTab Tryz.f148 n241 = some (c241, []) := by kernel_rfl
theorem chk366 : compFn Tryz.prog vTab Tryz.f5 n366 = some (c366, []) := by kernel_rfl
theorem chk368 : compFn Tryz.prog vTab Tryz.f7 n368 = some (c368, []) := by kernel_rfl
theorem chk370 : compFn Tryz.prog vTab Tryz.f9 n370 = some (c370, []) := by kernel_rfl
theorem chk372 : compFn Tryz.prog vTab Tryz.f11 n372 = some (c372, []) := by kernel_rfl
theorem chk373 : compFn Tryz.prog vTab Tryz.f12 n373 = some (c373, [(10373, r10373.ps, r10373.assign, r10373.body, r10373.ks)]) := by kernel_rfl
theorem out373 : ∀ o ∈ ([(10373, r10373.ps, r10373.assign, r10373.body, r10373.ks)] : List (Nat × Array Nat × Code × Code × List Nat)), OutOk vTab Tryz.f12.ntmps o := by
 simp only [List.forall_mem_cons]
 exact ⟨out_ok (by kernel_rfl) (by kernel_rfl), fun o h => by cases h⟩
theorem chk374 : compFn Tryz.prog vTab Tryz.f13 n374 = some (c374, []) := by kernel_rfl
theorem chk376 : compFn Tryz.prog vTab Tryz.f15 n376 = some (c376, []) := by kernel_rfl
theorem chk379 : compFn Tryz.prog vTab Tryz.f18 n379 = some (c379, []) := by kernel_rfl
theorem chk380 : compFn Tryz.prog vTab Tryz.f22 n380 = some (c380, []) := by kernel_rfl
theorem chk381 : compFn Tryz.prog vTab Tryz.f23 n381 = some (c381, []) := by kernel_rfl
theorem chk383 : compFn Tryz.prog vTab Tryz.f26 n383 = some (c383, []) := by kernel_rfl
theorem chk384 : compFn Tryz.prog vTab Tryz.f27 n384 = some (c384, []) := by kernel_rfl
theorem chk387 : compFn Tryz.prog vTab Tryz.f30 n387 = some (c387, []) := by kernel_rfl
theorem chk388 : compFn Tryz.prog vTab Tryz.f31 n388 = some (c388, []) := by kernel_rfl
theorem chk389 : compFn Tryz.prog vTab Tryz.f33 n389 = some (c389, []) := by kernel_rfl
theorem chk391 : compFn Tryz.prog vTab Tryz.f36 n391 = some (c391, []) := by kernel_rfl
theorem chk393 : compFn Tryz.prog vTab Tryz.f40 n393 = some (c393, []) := by kernel_rfl
theorem chk394 : compFn Tryz.prog vTab Tryz.f41 n394 = some (c394, []) := by kernel_rfl
theorem chk395 : compFn Tryz.prog vTab Tryz.f42 n395 = some (c395, []) := by kernel_rfl
theorem chk396 : compFn Tryz.prog vTab Tryz.f43 n396 = some (c396, []) := by kernel_rfl
theorem chk398 : compFn Tryz.prog vTab Tryz.f48 n398 = some (c398, []) := by kernel_rfl
theorem chk399 : compFn Tryz.prog vTab Tryz.f49 n399 = some (c399, []) := by kernel_rfl
theorem chk400 : compFn Tryz.prog vTab Tryz.f50 n400 = some (c400, []) := by kernel_rfl
theorem chk401 : compFn Tryz.prog vTab Tryz.f51 n401 = some (c401, []) := by kernel_rfl
theorem chk404 : compFn Tryz.prog vTab Tryz.f55 n404 = some (c404, []) := by kernel_rfl
theorem chk405 : compFn Tryz.prog vTab Tryz.f56 n405 = some (c405, []) := by kernel_rfl
theorem chk406 : compFn Tryz.prog vTab Tryz.f58 n406 = some (c406, []) := by kernel_rfl
theorem chk407 : compFn Tryz.prog vTab Tryz.f60 n407 = some (c407, []) := by kernel_rfl
theorem chk408 : compFn Tryz.prog vTab Tryz.f61 n408 = some (c408, []) := by kernel_rfl
theorem chk410 : compFn Tryz.prog vTab Tryz.f64 n410 = some (c410, []) := by kernel_rfl
theorem chk412 : compFn Tryz.prog vTab Tryz.f67 n412 = some (c412, []) := by kernel_rfl
theorem chk413 : compFn Tryz.prog vTab Tryz.f68 n413 = some (c413, []) := by kernel_rfl
theorem chk414 : compFn Tryz.prog vTab Tryz.f69 n414 = some (c414, []) := by kernel_rfl
theorem chk416 : compFn Tryz.prog vTab Tryz.f71 n416 = some (c416, []) := by kernel_rfl
theorem chk417 : compFn Tryz.prog vTab Tryz.f72 n417 = some (c417, []) := by kernel_rfl
theorem chk422 : compFn Tryz.prog vTab Tryz.f82 n422 = some (c422, []) := by kernel_rfl
theorem chk423 : compFn Tryz.prog vTab Tryz.f83 n423 = some (c423, []) := by kernel_rfl
theorem chk424 : compFn Tryz.prog vTab Tryz.f84 n424 = some (c424, []) := by kernel_rfl
theorem chk425 : compFn Tryz.prog vTab Tryz.f85 n425 = some (c425, []) := by kernel_rfl
theorem chk426 : compFn Tryz.prog vTab Tryz.f86 n426 = some (c426, []) := by kernel_rfl
theorem chk427 : compFn Tryz.prog vTab Tryz.f87 n427 = some (c427, []) := by kernel_rfl
theorem chk428 : compFn Tryz.prog vTab Tryz.f89 n428 = some (c428, []) := by kernel_rfl
theorem chk429 : compFn Tryz.prog vTab Tryz.f90 n429 = some (c429, []) := by kernel_rfl
theorem chk430 : compFn Tryz.prog vTab Tryz.f91 n430 = some (c430, []) := by kernel_rfl
theorem chk431 : compFn Tryz.prog vTab Tryz.f92 n431 = some (c431, []) := by kernel_rfl
theorem chk432 : compFn Tryz.prog vTab Tryz.f111 n432 = some (c432, []) := by kernel_rfl
theorem chk433 : compFn Tryz.prog vTab Tryz.f112 n433 = some (c433, []) := by kernel_rfl
theorem chk434 : compFn Tryz.prog vTab Tryz.f113 n434 = some (c434, []) := by kernel_rfl
theorem chk435 : compFn Tryz.prog vTab Tryz.f114 n435 = some (c435, []) := by kernel_rfl
theorem chk436 : compFn Tryz.prog vTab Tryz.f115 n436 = some (c436, []) := by kernel_rfl
theorem chk437 : compFn Tryz.prog vTab Tryz.f135 n437 = some (c437, []) := by kernel_rfl
theorem chk438 : compFn Tryz.prog vTab Tryz.f145 n438 = some (c438, []) := by kernel_rfl
theorem chk439 : compFn Tryz.prog vTab Tryz.f149 n439 = some (c439, []) := by kernel_rfl
theorem chk440 : compFn Tryz.prog vTab Tryz.f150 n440 = some (c440, []) := by kernel_rfl
theorem chk441 : compFn Tryz.prog vTab Tryz.f153 n441 = some (c441, []) := by kernel_rfl
theorem chk10373 : compRnd Tryz.prog vTab r10373 n10373 = some (a10373, b10373, []) := by kernel_rfl
theorem out10373 : ∀ o ∈ ([] : List (Nat × Array Nat × Code × Code × List Nat)), OutOk vTab r10373.nt o := fun o h => by cases h
theorem vBody : ∀ p ∈ vTab.fns, ∀ args w, (callFunc p.1 args).run Tryz.prog w = .ok (.enter p.1 args) w := by
 simp only [vTab, List.forall_mem_cons]
 exact ⟨Tryz.call5, Tryz.call7, Tryz.call9, Tryz.call11, Tryz.call12, Tryz.call13, Tryz.call15, Tryz.call18, Tryz.call20, Tryz.call22, Tryz.call23, Tryz.call25, Tryz.call26, Tryz.call27, Tryz.call30, Tryz.call31, Tryz.call32, Tryz.call33, Tryz.call35, Tryz.call36, Tryz.call38, Tryz.call40, Tryz.call41, Tryz.call42, Tryz.call43, Tryz.call45, Tryz.call46, Tryz.call47, Tryz.call48, Tryz.call49, Tryz.call50, Tryz.call51, Tryz.call54, Tryz.call55, Tryz.call56, Tryz.call57, Tryz.call58, Tryz.call59, Tryz.call60, Tryz.call61, Tryz.call64, Tryz.call67, Tryz.call68, Tryz.call69, Tryz.call71, Tryz.call72, Tryz.call78, Tryz.call79, Tryz.call80, Tryz.call81, Tryz.call82, Tryz.call83, Tryz.call84, Tryz.call85, Tryz.call86, Tryz.call87, Tryz.call88, Tryz.call89, Tryz.call90, Tryz.call91, Tryz.call92, Tryz.call94, Tryz.call95, Tryz.call96, Tryz.call97, Tryz.call98, Tryz.call99, Tryz.call100, Tryz.call101, Tryz.call102, Tryz.call103, Tryz.call104, Tryz.call105, Tryz.call106, Tryz.call107, Tryz.call108, Tryz.call109, Tryz.call110, Tryz.call111, Tryz.call112, Tryz.call113, Tryz.call114, Tryz.call115, Tryz.call118, Tryz.call119, Tryz.call120, Tryz.call121, Tryz.call122, Tryz.call123, Tryz.call124, Tryz.call125, Tryz.call126, Tryz.call127, Tryz.call128, Tryz.call129, Tryz.call130, Tryz.call131, Tryz.call132, Tryz.call133, Tryz.call134, Tryz.call135, Tryz.call138, Tryz.call139, Tryz.call140, Tryz.call141, Tryz.call142, Tryz.call143, Tryz.call144, Tryz.call145, Tryz.call147, Tryz.call148, Tryz.call149, Tryz.call150, Tryz.call151, Tryz.call152, Tryz.call153, Tryz.call154, Tryz.call155, Tryz.call156, Tryz.call157, Tryz.call158, Tryz.call159, Tryz.call160, Tryz.call161, Tryz.call162, Tryz.call163, Tryz.call164, Tryz.call165, Tryz.call166, Tryz.call167, Tryz.call168, Tryz.call169, Tryz.call170, Tryz.call171, Tryz.call172, by simp⟩
theorem vCode : ∀ p ∈ vTab.fns, CodeAt Tryz.prog vTab tF p := by
 simp only [vTab, List.forall_mem_cons]
 exact ⟨code_at0 (by kernel_rfl) Tryz.func5 chk366, code_at0 (by kernel_rfl) Tryz.func7 chk368, code_at0 (by kernel_rfl) Tryz.func9 chk370, code_at0 (by kernel_rfl) Tryz.func11 chk372, code_at (by kernel_rfl) Tryz.func12 chk373 out373, code_at0 (by kernel_rfl) Tryz.func13 chk374, code_at0 (by kernel_rfl) Tryz.func15 chk376, code_at0 (by kernel_rfl) Tryz.func18 chk379, code_at0 (by kernel_rfl) Tryz.func20 chk108, code_at0 (by kernel_rfl) Tryz.func22 chk380, code_at0 (by kernel_rfl) Tryz.func23 chk381, code_at0 (by kernel_rfl) Tryz.func25 chk170, code_at0 (by kernel_rfl) Tryz.func26 chk383, code_at0 (by kernel_rfl) Tryz.func27 chk384, code_at0 (by kernel_rfl) Tryz.func30 chk387, code_at0 (by kernel_rfl) Tryz.func31 chk388, code_at0 (by kernel_rfl) Tryz.func32 chk181, code_at0 (by kernel_rfl) Tryz.func33 chk389, code_at0 (by kernel_rfl) Tryz.func35 chk192, code_at0 (by kernel_rfl) Tryz.func36 chk391, code_at0 (by kernel_rfl) Tryz.func38 chk123, code_at0 (by kernel_rfl) Tryz.func40 chk393, code_at0 (by kernel_rfl) Tryz.func41 chk394, code_at0 (by kernel_rfl) Tryz.func42 chk395, code_at0 (by kernel_rfl) Tryz.func43 chk396, code_at0 (by kernel_rfl) Tryz.func45 chk188, code_at0 (by kernel_rfl) Tryz.func46 chk189, code_at0 (by kernel_rfl) Tryz.func47 chk190, code_at0 (by kernel_rfl) Tryz.func48 chk398, code_at0 (by kernel_rfl) Tryz.func49 chk399, code_at0 (by kernel_rfl) Tryz.func50 chk400, code_at0 (by kernel_rfl) Tryz.func51 chk401, code_at0 (by kernel_rfl) Tryz.func54 chk169, code_at0 (by kernel_rfl) Tryz.func55 chk404, code_at0 (by kernel_rfl) Tryz.func56 chk405, code_at0 (by kernel_rfl) Tryz.func57 chk197, code_at0 (by kernel_rfl) Tryz.func58 chk406, code_at0 (by kernel_rfl) Tryz.func59 chk182, code_at0 (by kernel_rfl) Tryz.func60 chk407, code_at0 (by kernel_rfl) Tryz.func61 chk408, code_at0 (by kernel_rfl) Tryz.func64 chk410, code_at0 (by kernel_rfl) Tryz.func67 chk412, code_at0 (by kernel_rfl) Tryz.func68 chk413, code_at0 (by kernel_rfl) Tryz.func69 chk414, code_at0 (by kernel_rfl) Tryz.func71 chk416, code_at0 (by kernel_rfl) Tryz.func72 chk417, code_at0 (by kernel_rfl) Tryz.func78 chk184, code_at0 (by kernel_rfl) Tryz.func79 chk185, code_at0 (by kernel_rfl) Tryz.func80 chk186, code_at0 (by kernel_rfl) Tryz.func81 chk187, code_at0 (by kernel_rfl) Tryz.func82 chk422, code_at0 (by kernel_rfl) Tryz.func83 chk423, code_at0 (by kernel_rfl) Tryz.func84 chk424, code_at0 (by kernel_rfl) Tryz.func85 chk425, code_at0 (by kernel_rfl) Tryz.func86 chk426, code_at0 (by kernel_rfl) Tryz.func87 chk427, code_at0 (by kernel_rfl) Tryz.func88 chk235, code_at0 (by kernel_rfl) Tryz.func89 chk428, code_at0 (by kernel_rfl) Tryz.func90 chk429, code_at0 (by kernel_rfl) Tryz.func91 chk430, code_at0 (by kernel_rfl) Tryz.func92 chk431, code_at0 (by kernel_rfl) Tryz.func94 chk198, code_at0 (by kernel_rfl) Tryz.func95 chk199, code_at0 (by kernel_rfl) Tryz.func96 chk200, code_at0 (by kernel_rfl) Tryz.func97 chk201, code_at0 (by kernel_rfl) Tryz.func98 chk202, code_at0 (by kernel_rfl) Tryz.func99 chk203, code_at0 (by kernel_rfl) Tryz.func100 chk204, code_at0 (by kernel_rfl) Tryz.func101 chk205, code_at0 (by kernel_rfl) Tryz.func102 chk206, code_at0 (by kernel_rfl) Tryz.func103 chk207, code_at0 (by kernel_rfl) Tryz.func104 chk208, code_at0 (by kernel_rfl) Tryz.func105 chk209, code_at0 (by kernel_rfl) Tryz.func106 chk210, code_at0 (by kernel_rfl) Tryz.func107 chk211, code_at0 (by kernel_rfl) Tryz.func108 chk212, code_at0 (by kernel_rfl) Tryz.func109 chk213, code_at0 (by kernel_rfl) Tryz.func110 chk214, code_at0 (by kernel_rfl) Tryz.func111 chk432, code_at0 (by kernel_rfl) Tryz.func112 chk433, code_at0 (by kernel_rfl) Tryz.func113 chk434, code_at0 (by kernel_rfl) Tryz.func114 chk435, code_at0 (by kernel_rfl) Tryz.func115 chk436, code_at0 (by kernel_rfl) Tryz.func118 chk216, code_at0 (by kernel_rfl) Tryz.func119 chk217, code_at0 (by kernel_rfl) Tryz.func120 chk218, code_at0 (by kernel_rfl) Tryz.func121 chk219, code_at0 (by kernel_rfl) Tryz.func122 chk220, code_at0 (by kernel_rfl) Tryz.func123 chk221, code_at0 (by kernel_rfl) Tryz.func124 chk222, code_at0 (by kernel_rfl) Tryz.func125 chk223, code_at0 (by kernel_rfl) Tryz.func126 chk224, code_at0 (by kernel_rfl) Tryz.func127 chk225, code_at0 (by kernel_rfl) Tryz.func128 chk226, code_at0 (by kernel_rfl) Tryz.func129 chk227, code_at0 (by kernel_rfl) Tryz.func130 chk228, code_at0 (by kernel_rfl) Tryz.func131 chk229, code_at0 (by kernel_rfl) Tryz.func132 chk230, code_at0 (by kernel_rfl) Tryz.func133 chk231, code_at0 (by kernel_rfl) Tryz.func134 chk232, code_at0 (by kernel_rfl) Tryz.func135 chk437, code_at0 (by kernel_rfl) Tryz.func138 chk233, code_at0 (by kernel_rfl) Tryz.func139 chk234, code_at0 (by kernel_rfl) Tryz.func140 chk236, code_at0 (by kernel_rfl) Tryz.func141 chk237, code_at0 (by kernel_rfl) Tryz.func142 chk238, code_at0 (by kernel_rfl) Tryz.func143 chk239, code_at0 (by kernel_rfl) Tryz.func144 chk240, code_at0 (by kernel_rfl) Tryz.func145 chk438, code_at0 (by kernel_rfl) Tryz.func147 chk111, code_at0 (by kernel_rfl) Tryz.func148 chk241, code_at0 (by kernel_rfl) Tryz.func149 chk439, code_at0 (by kernel_rfl) Tryz.func150 chk440, code_at0 (by kernel_rfl) Tryz.func151 chk112, code_at0 (by kernel_rfl) Tryz.func152 chk125, code_at0 (by kernel_rfl) Tryz.func153 chk441, code_at0 (by kernel_rfl) Tryz.func154 chk139, code_at0 (by kernel_rfl) Tryz.func155 chk140, code_at0 (by kernel_rfl) Tryz.func156 chk141, code_at0 (by kernel_rfl) Tryz.func157 chk142, code_at0 (by kernel_rfl) Tryz.func158 chk151, code_at0 (by kernel_rfl) Tryz.func159 chk114, code_at0 (by kernel_rfl) Tryz.func160 chk152, code_at0 (by kernel_rfl) Tryz.func161 chk153, code_at0 (by kernel_rfl) Tryz.func162 chk154, code_at0 (by kernel_rfl) Tryz.func163 chk129, code_at0 (by kernel_rfl) Tryz.func164 chk137, code_at0 (by kernel_rfl) Tryz.func165 chk155, code_at0 (by kernel_rfl) Tryz.func166 chk126, code_at0 (by kernel_rfl) Tryz.func167 chk127, code_at0 (by kernel_rfl) Tryz.func168 chk128, code_at0 (by kernel_rfl) Tryz.func169 chk130, code_at0 (by kernel_rfl) Tryz.func170 chk145, code_at0 (by kernel_rfl) Tryz.func171 chk143, code_at0 (by kernel_rfl) Tryz.func172 chk144, fun p h => by cases h⟩
theorem vRnd : ∀ p ∈ vTab.rnds, RndAt Tryz.prog vTab tF p := by
 simp only [vTab, List.forall_mem_cons]
 exact ⟨rnd_at (ps := [13]) (ks := [2, 4]) (by kernel_rfl) (by kernel_rfl) (by kernel_rfl) (by kernel_rfl) (by kernel_rfl) chk10373 out10373, fun p h => by cases h⟩
theorem vTabOk : TabOk Tryz.prog vTab tF := tab_ok vBody (by kernel_rfl) vCode vRnd
theorem trod_len {H : Type} {P : Program} {enc : TypeId × Value → H} {W : World} {sp : Nat → Bool} : ∀ {ts : List TypeId} {vs : List Value} {ds : List (DataW H)} {ps : List MemPlace}, DataW.TrodAll enc P W 0 sp true ts vs ds ps → ds.length = ts.length
 | [], [], [], ps, _ => rfl
 | t :: ts, v :: vs, d :: ds, ps, ⟨p, q, h1, h2, e⟩ => by simp [trod_len h2]
 | [], [], _ :: _, _, h => h.elim
 | [], _ :: _, _, _, h => h.elim
 | _ :: _, [], _, _, h => h.elim
 | _ :: _, _ :: _, [], _, h => h.elim
theorem own : ownKnob Tryz.prog.godebug = none := by kernel_rfl
theorem laidOut : laidOutB Tryz.prog = true := by kernel_rfl
end Go.Proofs.YthmlhnbjbbfklaaGreat
