/-
 LocalAll: the functions stand where they are looked for; what is asked first comes to true; what Sums answers.
-/
import Derived.Test.YtdbjkmciidcanaaGreatText4
import Derived.Test.YtdbjkmciidcanaaGreatLocalAllFacts
namespace Ab
set_option linter.unusedVariables false
set_option maxRecDepth 100000
theorem aE:AE tF:=⟨rfl,rfl,rfl,rfl,rfl,rfl,rfl,rfl,rfl,rfl,rfl,rfl,rfl,rfl,rfl,rfl,rfl,rfl,rfl,rfl,rfl,rfl,rfl,rfl,rfl,rfl,rfl,rfl,rfl,rfl,rfl,rfl,rfl,rfl,rfl,rfl,rfl,rfl,rfl,rfl,rfl,rfl,rfl,rfl,rfl,rfl,rfl,rfl,rfl,rfl,rfl,rfl,rfl,rfl,rfl,rfl,rfl,rfl,rfl,rfl,rfl,rfl,rfl,rfl,rfl,rfl,rfl,rfl,rfl,rfl,rfl,rfl,rfl,rfl⟩
theorem pE:PE tF:=⟨rfl,rfl,rfl,rfl,rfl,rfl,rfl,rfl⟩
theorem hE:HE tF:=⟨rfl,rfl,rfl⟩
theorem kE:KE tF:=⟨rfl,rfl,rfl,rfl⟩
theorem dE:DE tF:=⟨rfl,rfl,rfl,rfl,rfl,rfl⟩
theorem z6u:lcall tF 111 [z80.arg] []=some (.d (.b true),[]):=zjk (F:=[]) zgy (by decide +kernel)
theorem z25:lcall tF 110 [z80.arg] []=some (.d (.b true),[]):=zjk (F:=[]) zgy (by decide +kernel)
noncomputable def sumSays (w:Nat):Bool:=Zbo [] tF 170 [.d (.i .i64 (.ofNat w))] (Zis (w % 4)) (Zit (w % 4))
theorem Zmx:∀ w,w < 64→sumSays w=true:=by decide +kernel
theorem Zmy:∀ w,w < 64→sumSays (64 + w)=true:=by decide +kernel
theorem Zmz:∀ w,w < 64→sumSays (128 + w)=true:=by decide +kernel
theorem Zm0:∀ w,w < 64→sumSays (192 + w)=true:=by decide +kernel
theorem z6v (w:Nat)(h:w < 256):lcall tF 170 [.d (.i .i64 (w:Nat))] []=some (Zis (w % 4),Zit (w % 4)):=by
 have hs:sumSays w=true:=by
  by_cases h0:w < 64
  ·exact Zmx w h0
  by_cases h1:w < 128
  ·have:=Zmy (w - 64) (by omega); rwa [show 64 + (w - 64)=w by omega] at this
  by_cases h2:w < 192
  ·have:=Zmz (w - 128) (by omega); rwa [show 128 + (w - 128)=w by omega] at this
  ·have:=Zm0 (w - 192) (by omega); rwa [show 192 + (w - 192)=w by omega] at this
 exact zjk (F:=[]) zgy hs
theorem zu6 (l:List UInt8)(w:UInt8)(p:Int):lcall tF 760 [.d (.l 1 (zdu l)),.d (.i .u8 w.toNat),.d (.i .i64 p)] []=some (.d (.b true),[]) :=
 zxt aE pE hE kE dE rfl rfl rfl rfl rfl fo1 z6u z25 z6v l w p
end Ab
