/-
 LocalAll: for every input it returns true, and what it was handed reads as it did. No condition.
-/
import Derived.Test.YtdbjkmciidcanaaGreatLocalAllTab
import Derived.Test.YtdbjkmciidcanaaGreatLocalAllE
import Derived.Test.YtdbjkmciidcanaaGreatPack5
namespace Go.Proofs.YtdbjkmciidcanaaGreat
open Go Go.ChangeShapes Go.WideShapes Go.ChangeAt Go.RowKit Ab
set_option linter.unusedVariables false
set_option maxRecDepth 100000
theorem zsb:zqq Tryz.prog [3,5,27]=true:=by kernel_rfl
theorem zsc (vs:List Ab.V)(h:TyArgs Tryz.prog [27,5,3] vs):∃ h',lcall tF 760 vs []=some (.d (.b true),h'):=by
 cases h with | cons f0 d0 h0 r =>
 cases r with | cons f1 d1 h1 r =>
 cases r with | cons f2 d2 h2 r =>
 cases r
 obtain ⟨x0,rfl⟩:=z41 Tryz.underlying27 Tryz.underlying5 (by kernel_rfl) h0
 obtain ⟨x1,rfl⟩:=Zlj Tryz.underlying5 h1
 obtain ⟨x2,rfl,b2⟩:=Zdu Tryz.underlying3 h2
 refine ⟨[], ?_⟩
 show lcall tF 760 [V.d (.l 1 (zdu x0)),V.d (.i .u8 x1.toNat),V.d (.i .i64 x2)] []=_
 exact zu6 x0 x1 x2
set_option maxRecDepth 100000 in
theorem zm3 (os:Os)(started:os.Started)(H:Type)(enc:TypeId × Value→H) :
  ReturnsInHanded {} Tryz.checked os 4 .any (Rows.localAllSpec.pre6 enc Tryz.prog Tryz.f4 Rows.localAllRow.domain false) (Rows.localAllSpec.post enc Tryz.prog Tryz.f4 false true false false):=by
 refine returnsInHanded_of_change (C:=Tryz.checked) own started (by kernel_rfl) Tryz.func4
  (ChangeSpec.witness6 (enc:=enc) (C:=Tryz.checked) false ⟨#[], #[.slice none 0 0,.int .u8 0,.int .i64 0],[]⟩ 8 (by kernel_rfl) (by kernel_rfl) (by kernel_rfl) (by kernel_rfl)) ?_
 intro W base args ds gs before hval0 hW hcnd _
 have hval:∀ (j:Nat) t v,Tryz.f4.params[j]?=some t→args[j]?=some v→Value.okWide Tryz.prog W .any base t v:=hval0
 have hW':=hW
 obtain ⟨p,q,hA0,hV,rfl,hfz,hnd⟩:=hW
 have hA:DataW.TrodAll enc Tryz.prog W 0 (fun _=>true) true Tryz.f4.params.toList args.toList ds p:=hA0
 rw [Tryz.params4] at hA
 refine (z1s Zie zsb (fid:=4) (key:=760) (by kernel_rfl) (ts:=[27,5,3]) (by decide) zsc hA (fun j t v h1 h2=>⟨_,_,hval j t v (by rw [Tryz.params4]; simpa using h1) (by simpa using h2)⟩)).mono fun e W' ⟨he,hw⟩=>?_
 subst he
 refine ⟨_,rfl,z52 rfl (by kernel_rfl) (tb:=4) Tryz.underlying4 Zaq (by rw [Tryz.params4]; decide +kernel) hW' ?_ hw⟩
 have hl:=zw9 hA
 obtain ⟨rfl,rfl⟩:=trodVars_none hV
 match ds,hl with
 | [_,_,_],_=>exact ⟨rfl,rfl,rfl⟩
theorem localAll_holds:Rows.LocalAllSaid :=
 OpenClaim.holds_of_wide 4 Tryz.f4 rfl rfl rfl rfl rfl rfl rfl ⟨rfl,rfl,rfl,rfl,rfl⟩ rfl rfl rfl rfl rfl (by kernel_rfl) Tryz.func4 (by kernel_rfl)
  (of_decide_eq_true (by kernel_rfl)) (by unfold Func.isWrapper; first | (rw [if_pos (by decide +kernel)]; kernel_rfl) | (rw [if_neg (by decide +kernel)]; exact ⟨rfl,rfl⟩))
  (fun os started H enc _=>zm3 os started H enc)
#print axioms localAll_holds
end Go.Proofs.YtdbjkmciidcanaaGreat
