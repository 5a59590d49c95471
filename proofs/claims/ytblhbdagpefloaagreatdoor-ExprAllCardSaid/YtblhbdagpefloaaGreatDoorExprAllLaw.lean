/-
 ExprAll: for every input it returns true, and what it was handed reads as it did; tied to the text that lays the listed variables. No condition.
-/
import Derived.Test.YtblhbdagpefloaaGreatDoorExprAllTab
import Derived.Test.YtblhbdagpefloaaGreatDoorExprAllE
import Derived.Test.YtblhbdagpefloaaGreatDoorPack4
import Derived.Test.YtblhbdagpefloaaGreatDoorCards
import Derived.Test.YtblhbdagpefloaaGreatDoorTie
import Derived.ProofKit
import Derived.OpenShut
import Derived.Deep.DeepHandedRow
namespace Go.Proofs.YtblhbdagpefloaaGreatDoor
open Go Go.ChangeShapes Go.WideShapes Go.ChangeAt Go.RowKit Ab
set_option linter.unusedVariables false
set_option maxRecDepth 100000
mutual
def zwz:DataW Unit→List Value
 | .agg l=>z54 l
 | .lit (.int k n)=>[.int k n]
 | _=>[]
def z54:List (DataW Unit)→List Value
 | []=>[]
 | x :: r=>zwz x++z54 r
end
theorem zw0:ownKnob Tryz.prog.godebug=none:=by kernel_rfl
theorem zt3:zqy Tryz.prog [2,3,5,9,22,23,25,26,28]=true:=by kernel_rfl
theorem zy2 {P:Program}{t:TypeId}(h:za0 P t=true){x:Exp}:Zf3 P t x.row=x.arg:=by unfold Zf3; rw [if_pos h]; exact zwc x
theorem zt4 (vs:List Ab.V)(h:TyArgs Tryz.prog [22,22,28] vs):∃ h',lcall tF 255 vs []=some (.d (.b true),h'):=by
 cases h with | cons f0 d0 h0 r =>
 cases r with | cons f1 d1 h1 r =>
 cases r with | cons f2 d2 h2 r =>
 cases r
 obtain ⟨x0,rfl⟩:=zve Tryz.underlying22 Tryz.underlying5 (by kernel_rfl) h0
 obtain ⟨x1,rfl⟩:=zve Tryz.underlying22 Tryz.underlying5 (by kernel_rfl) h1
 obtain ⟨⟨x20,⟨x21,x22,x23,x24⟩,x25,x26,x27⟩,rfl,x2f⟩:=Vx.ty_expr Tryz.underlying28 rfl Tryz.underlying26 Tryz.underlying25 rfl Tryz.underlying3 Tryz.underlying2 Tryz.underlying9 Tryz.underlying23 (by kernel_rfl) (by kernel_rfl) (by kernel_rfl) (by kernel_rfl) (by kernel_rfl) (by kernel_rfl) (by kernel_rfl) _ h2
 refine ⟨[], ?_⟩
 rw [zy2 (t:=28) (by kernel_rfl)]
 show lcall tF 255 [V.d (.l 1 (zca x0)),V.d (.l 1 (zca x1)),(Exp.mk x20 (GVal.mk x21 x22 x23 x24) x25 x26 x27).arg] []=_
 exact Vx.exprAll_ok x0 x1 x2f
noncomputable def lowB:Nat:=(World.holding Tryz.prog default ⟨#[], #[],[]⟩).heap.size
def setG (h:Array Go.Obj)(i:Nat)(cs:Array Value):Array Go.Obj:=h.modify i fun
 | .cells _ t fr=>.cells cs t fr
 | x=>x
noncomputable def laidWorld (os:Os):World :=
 let w0:=World.holding Tryz.prog os ⟨#[.cells #[.string ⟨#[118,97,108,117,101,32,111,117,116,32,111,102,32,114,97,110,103,101]⟩] 158,.cells #[.string ⟨#[105,110,118,97,108,105,100,32,115,121,110,116,97,120]⟩] 158], #[],[]⟩
 { w0 with heap:=setG (setG (setG (setG (setG (setG (setG (w0.heap) 6 (zwz Rows.laid_math_bits_deBruijn32tab).toArray) 7 (zwz Rows.laid_math_bits_deBruijn64tab).toArray) 5 (zwz Rows.laid_internal_strconv_uint64pow10).toArray) 3 (zwz Rows.laid_unicode_utf8_acceptRanges).toArray) 1 #[.iface 156 (.pointer (some ⟨lowB + 0,0,none⟩))]) 0 #[.iface 156 (.pointer (some ⟨lowB + 1,0,none⟩))]) 2 (zwz Rows.laid_unicode_utf8_first).toArray }
theorem z23 (os:Os):laidMet Tryz.prog Rows.exprAllRow.laid ((laidWorld os).forCall (fun _ _=>0) ⟨#[], #[.slice none 0 0,.slice none 0 0,.agg #[.int .i64 0,.int .i64 0,.int .i64 0,.string ⟨#[]⟩,.slice none 0 0,.int .i64 0,.int .i64 0,.slice none 0 0]],[]⟩).memory :=
 laidMet_of_run' 8 (by kernel_rfl) (by kernel_rfl)
theorem reads (os:Os){H:Type}(enc:TypeId × Value→H):(DataW.whole enc Tryz.prog ((laidWorld os).forCall (fun _ _=>0) ⟨#[], #[.slice none 0 0,.slice none 0 0,.agg #[.int .i64 0,.int .i64 0,.int .i64 0,.string ⟨#[]⟩,.slice none 0 0,.int .i64 0,.int .i64 0,.slice none 0 0]],[]⟩).memory Tryz.f3.params.toList Rows.exprAllSpec.vars false (#[.slice none 0 0,.slice none 0 0,.agg #[.int .i64 0,.int .i64 0,.int .i64 0,.string ⟨#[]⟩,.slice none 0 0,.int .i64 0,.int .i64 0,.slice none 0 0]]:Array Value).toList 8).isSome=true:=by kernel_rfl
theorem zop (os:Os)(started:os.Started)(H:Type)(enc:TypeId × Value→H)(F:Stop.Interp) :
  ReturnsInHanded {} Tryz.checked os 3 .any ((OpenSpec.ofChange Rows.exprAllSpec).preRow enc Tryz.prog Tryz.f3 Rows.exprAllRow.domain false Rows.exprAllRow.laid) (((OpenSpec.ofChange Rows.exprAllSpec).at F).post enc Tryz.prog Tryz.f3 false true false false):=by
 obtain ⟨x,hx⟩:=Option.isSome_iff_exists.1 (reads os enc)
 refine returnsInHanded_of_row (C:=Tryz.checked) (s:=OpenSpec.ofChange Rows.exprAllSpec) zw0 started (by kernel_rfl) Tryz.func3
  (witness_row_at (enc:=enc) (C:=Tryz.checked) false (laidWorld os) #[.slice none 0 0,.slice none 0 0,.agg #[.int .i64 0,.int .i64 0,.int .i64 0,.string ⟨#[]⟩,.slice none 0 0,.int .i64 0,.int .i64 0,.slice none 0 0]] rfl (by kernel_rfl) (by kernel_rfl) (by kernel_rfl)
   (OpenSpec.preRow_of_cond 8 hx rfl (fun k hk=>by cases hk) (by kernel_rfl) (z23 os))) ?_
 intro W base args ds gs before hval0 hW _ _ _ hL _ _
 have hval:∀ (j:Nat) t v,Tryz.f3.params[j]?=some t→args[j]?=some v→Value.okWide Tryz.prog W .any base t v:=hval0
 have hW':=hW
 obtain ⟨p,q,hA0,hV,rfl,hfz,hnd⟩:=hW
 have hA:DataW.TrodAll enc Tryz.prog W 0 (fun _=>true) true Tryz.f3.params.toList args.toList ds p:=hA0
 rw [Tryz.params3] at hA
 refine (zzx Zd9 zt3 (fid:=3) (key:=255) (by kernel_rfl) (ts:=[22,22,28]) (by decide) zt4 hA (fun j t v h1 h2=>⟨_,_,hval j t v (by rw [Tryz.params3]; simpa using h1) (by simpa using h2)⟩)).mono fun e W' ⟨he,hw⟩=>?_
 subst he
 refine ⟨_,rfl,z34 rfl (by kernel_rfl) (tb:=4) Tryz.underlying4 (show laidOutB Tryz.prog=true by kernel_rfl) (by rw [Tryz.params3]; decide +kernel) hW' ?_ hw⟩
 have hl:=zu8 hA
 obtain ⟨rfl,rfl⟩:=trodVars_none hV
 match ds,hl with
 | [_,_,_],_=>exact ⟨rfl,rfl,rfl⟩
theorem zr2:Rows.ExprAllSaid :=
 OpenClaim.holds_of_cond 3 Tryz.f3 rfl rfl rfl rfl rfl rfl rfl ⟨rfl,rfl,rfl,rfl,rfl⟩ rfl rfl rfl rfl rfl (by kernel_rfl) Tryz.func3 (by kernel_rfl)
  (of_decide_eq_true (by kernel_rfl)) (by unfold Func.isWrapper; first | (rw [if_pos (by decide +kernel)]; kernel_rfl) | (rw [if_neg (by decide +kernel)]; exact ⟨rfl,rfl⟩))
  (fun os started H enc _ F=>by rw [OpenClaim.pre_eq_preRow]; exact zop os started H enc F)
theorem zr3 (f:FuncId)(fn:Func)(hf:Tryz.pinned.checked.prog.funcNamed Rows.exprAllRow.func=some f)(hfn:Tryz.pinned.checked.prog.funcs[f]?=some fn) :
  true=Tryz.pinned.checked.prog.looks []∧∀ (j:Nat) t,fn.params[j]?=some t→Tryz.pinned.checked.prog.wantsStandIn t=false:=by
 obtain rfl:f=3:=Option.some.inj ((show Tryz.prog.funcNamed Rows.exprAllRow.func=some 3 by kernel_rfl).symm.trans hf) |>.symm
 obtain rfl:fn=Tryz.f3:=(Option.some.inj (Tryz.func3.symm.trans hfn)).symm
 refine ⟨by kernel_rfl,fun j t ht=>?_⟩
 rw [Tryz.params3] at ht
 have hm:=Array.mem_of_getElem? ht
 simp only [List.mem_toArray,List.mem_cons,List.not_mem_nil,or_false] at hm
 rcases hm with rfl | rfl | rfl
 ·exact (show Tryz.prog.wantsStandIn 22=false by kernel_rfl)
 ·exact (show Tryz.prog.wantsStandIn 22=false by kernel_rfl)
 ·exact (show Tryz.prog.wantsStandIn 28=false by kernel_rfl)
theorem exprAll_card:Rows.ExprAllCardSaid :=
 Claim7.holds_tied_plain_at .later [] _ _ _ _ zr2 (fun _ h=>by cases h) (by kernel_rfl) (fun _ h=>by cases h) exprAll_row_tie rfl ⟨rfl,rfl⟩ (by kernel_rfl) rfl zr3 (by kernel_rfl)
#print axioms exprAll_card
end Go.Proofs.YtblhbdagpefloaaGreatDoor
