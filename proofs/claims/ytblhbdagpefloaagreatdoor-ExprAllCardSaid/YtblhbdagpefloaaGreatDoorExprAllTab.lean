/-
 ExprAll: the table of the functions that are reached: each is what was compiled of it.
-/
import Derived.Test.YtblhbdagpefloaaGreatDoorRows
import Derived.ProofKit
import Derived.Test.YtblhbdagpefloaaGreatDoorPack3
import Derived.Test.YtblhbdagpefloaaGreatDoorText6
import Derived.Test.YtblhbdagpefloaaGreatDoorTryzPrims
namespace Go.Proofs.YtblhbdagpefloaaGreatDoor
open Go Go.ChangeShapes Go.WideShapes Go.ChangeAt Go.RowKit Ab
set_option linter.unusedVariables false
set_option maxRecDepth 100000
noncomputable def vTab:Tab:={ fns:=[(3,255),(12,264),(13,265),(14,266),(15,108),(16,267),(17,192),(18,175),(19,210),(20,268),(21,121),(22,269),(23,270),(24,110),(28,107),(29,109),(30,123),(31,274),(32,228),(33,275),(34,115),(35,276),(36,277),(37,278),(38,279),(39,280),(40,281),(41,282),(42,113),(43,124),(44,117),(45,120),(46,236),(47,237),(48,229),(49,238),(50,131),(51,146),(52,283),(53,284),(54,285),(55,286),(56,287),(57,112),(58,288),(59,289),(60,290),(61,291),(62,138),(63,111),(64,241),(65,239),(66,292),(67,293),(68,294),(69,295),(70,296),(71,297),(72,298),(73,299),(74,114),(75,300),(76,301),(77,302),(78,303),(79,304),(80,125),(90,126),(91,127),(92,128),(93,129),(94,130),(95,314),(96,119),(97,315),(98,134),(99,116),(100,139),(101,140),(102,141),(103,142),(113,143),(114,144),(115,145),(116,325),(117,135),(118,136),(119,137),(122,132),(123,133),(124,151),(125,152),(126,153),(127,154),(128,155),(137,150),(139,147)],rnds:=[] }
theorem Zbp:zau Tryz.prog vTab Tryz.f28 Zku=some (zw4,[]):=by kernel_rfl
theorem Zbq:zau Tryz.prog vTab Tryz.f15 Zkv=some (Zaw,[]):=by kernel_rfl
theorem Zbr:zau Tryz.prog vTab Tryz.f29 Zkw=some (zvl,[]):=by kernel_rfl
theorem Zbs:zau Tryz.prog vTab Tryz.f24 Zkx=some (zk8,[]):=by kernel_rfl
theorem Zbt:zau Tryz.prog vTab Tryz.f63 Zky=some (Zax,[]):=by kernel_rfl
theorem Zbu:zau Tryz.prog vTab Tryz.f57 Zkz=some (Zay,[]):=by kernel_rfl
theorem Zbv:zau Tryz.prog vTab Tryz.f42 Zk0=some (z58,[]):=by kernel_rfl
theorem Zbw:zau Tryz.prog vTab Tryz.f74 Zk1=some (Zfh,[]):=by kernel_rfl
theorem Zbx:zau Tryz.prog vTab Tryz.f34 Zk2=some (zvm,[]):=by kernel_rfl
theorem Zby:zau Tryz.prog vTab Tryz.f99 Zk3=some (Zaz,[]):=by kernel_rfl
theorem Zbz:zau Tryz.prog vTab Tryz.f44 Zk4=some (z1y,[]):=by kernel_rfl
theorem Zb0:zau Tryz.prog vTab Tryz.f96 Zk5=some (Zfi,[]):=by kernel_rfl
theorem Zb1:zau Tryz.prog vTab Tryz.f45 Zk6=some (z3b,[]):=by kernel_rfl
theorem Zb2:zau Tryz.prog vTab Tryz.f21 Zk7=some (c121,[]):=by kernel_rfl
theorem Zb3:zau Tryz.prog vTab Tryz.f30 Zk8=some (Za0,[]):=by kernel_rfl
theorem Zb4:zau Tryz.prog vTab Tryz.f43 Zk9=some (z8a,[]):=by kernel_rfl
theorem Zb5:zau Tryz.prog vTab Tryz.f80 Zla=some (z1z,[]):=by kernel_rfl
theorem Zb6:zau Tryz.prog vTab Tryz.f90 Zlb=some (z59,[]):=by kernel_rfl
theorem Zb7:zau Tryz.prog vTab Tryz.f91 Zlc=some (c127,[]):=by kernel_rfl
theorem Zb8:zau Tryz.prog vTab Tryz.f92 Zld=some (z3c,[]):=by kernel_rfl
theorem Zb9:zau Tryz.prog vTab Tryz.f93 Zle=some (zw5,[]):=by kernel_rfl
theorem Zca:zau Tryz.prog vTab Tryz.f94 Zlf=some (z3d,[]):=by kernel_rfl
theorem Zcb:zau Tryz.prog vTab Tryz.f50 Zlg=some (z3e,[]):=by kernel_rfl
theorem Zcc:zau Tryz.prog vTab Tryz.f122 Zlh=some (Za1,[]):=by kernel_rfl
theorem Zcd:zau Tryz.prog vTab Tryz.f123 Zli=some (Za2,[]):=by kernel_rfl
theorem Zce:zau Tryz.prog vTab Tryz.f117 Zlj=some (Za3,[]):=by kernel_rfl
theorem Zcf:zau Tryz.prog vTab Tryz.f118 Zlk=some (Zfj,[]):=by kernel_rfl
theorem Zcg:zau Tryz.prog vTab Tryz.f119 Zll=some (Za4,[]):=by kernel_rfl
theorem Zch:zau Tryz.prog vTab Tryz.f62 Zlm=some (Zij,[]):=by kernel_rfl
theorem Zci:zau Tryz.prog vTab Tryz.f100 Zln=some (z10,[]):=by kernel_rfl
theorem Zcj:zau Tryz.prog vTab Tryz.f101 Zlo=some (z3f,[]):=by kernel_rfl
theorem Zck:zau Tryz.prog vTab Tryz.f102 Zlp=some (Zfk,[]):=by kernel_rfl
theorem Zcl:zau Tryz.prog vTab Tryz.f103 Zlq=some (z8b,[]):=by kernel_rfl
theorem Zcm:zau Tryz.prog vTab Tryz.f113 Zlr=some (c143,[]):=by kernel_rfl
theorem Zcn:zau Tryz.prog vTab Tryz.f114 Zls=some (Za5,[]):=by kernel_rfl
theorem Zco:zau Tryz.prog vTab Tryz.f115 Zlt=some (c145,[]):=by kernel_rfl
theorem Zcp:zau Tryz.prog vTab Tryz.f139 Zlu=some (z3g,[]):=by kernel_rfl
theorem Zcq:zau Tryz.prog vTab Tryz.f137 Zlv=some (z3h,[]):=by kernel_rfl
theorem Zcr:zau Tryz.prog vTab Tryz.f124 Zlw=some (z8c,[]):=by kernel_rfl
theorem Zcs:zau Tryz.prog vTab Tryz.f125 Zlx=some (Zfl,[]):=by kernel_rfl
theorem Zct:zau Tryz.prog vTab Tryz.f126 Zly=some (z6a,[]):=by kernel_rfl
theorem Zcu:zau Tryz.prog vTab Tryz.f127 Zlz=some (Zfm,[]):=by kernel_rfl
theorem Zcv:zau Tryz.prog vTab Tryz.f128 Zl0=some (z6b,[]):=by kernel_rfl
theorem Zcw:zau Tryz.prog vTab Tryz.f18 Zl1=some (c175,[]):=by kernel_rfl
theorem Zcx:zau Tryz.prog vTab Tryz.f17 Zl2=some (c192,[]):=by kernel_rfl
theorem Zcy:zau Tryz.prog vTab Tryz.f19 Zl3=some (c210,[]):=by kernel_rfl
theorem Zcz:zau Tryz.prog vTab Tryz.f32 Zl4=some (zyb,[]):=by kernel_rfl
theorem Zc0:zau Tryz.prog vTab Tryz.f48 Zl5=some (Zjh,[]):=by kernel_rfl
theorem Zc1:zau Tryz.prog vTab Tryz.f46 Zl6=some (zsd,[]):=by kernel_rfl
theorem Zc2:zau Tryz.prog vTab Tryz.f47 Zl7=some (zjb,[]):=by kernel_rfl
theorem Zc3:zau Tryz.prog vTab Tryz.f49 Zl8=some (Zik,[]):=by kernel_rfl
theorem Zc4:zau Tryz.prog vTab Tryz.f65 Zl9=some (Zji,[]):=by kernel_rfl
theorem Zc5:zau Tryz.prog vTab Tryz.f64 Zma=some (z8d,[]):=by kernel_rfl
theorem Zc6:zau Tryz.prog vTab Tryz.f3 Zmb=some (zua,[]):=by kernel_rfl
theorem Zc7:zau Tryz.prog vTab Tryz.f12 Zmc=some (Zjj,[]):=by kernel_rfl
theorem Zc8:zau Tryz.prog vTab Tryz.f13 Zmd=some (zyc,[]):=by kernel_rfl
theorem Zc9:zau Tryz.prog vTab Tryz.f14 Zme=some (zyd,[]):=by kernel_rfl
theorem Zda:zau Tryz.prog vTab Tryz.f16 Zmf=some (zou,[]):=by kernel_rfl
theorem Zdb:zau Tryz.prog vTab Tryz.f20 Zmg=some (c268,[]):=by kernel_rfl
theorem Zdc:zau Tryz.prog vTab Tryz.f22 Zmh=some (c269,[]):=by kernel_rfl
theorem Zdd:zau Tryz.prog vTab Tryz.f23 Zmi=some (c270,[]):=by kernel_rfl
theorem Zde:zau Tryz.prog vTab Tryz.f31 Zmj=some (z6c,[]):=by kernel_rfl
theorem Zdf:zau Tryz.prog vTab Tryz.f33 Zmk=some (zfr,[]):=by kernel_rfl
theorem Zdg:zau Tryz.prog vTab Tryz.f35 Zml=some (Za6,[]):=by kernel_rfl
theorem Zdh:zau Tryz.prog vTab Tryz.f36 Zmm=some (zrq,[]):=by kernel_rfl
theorem Zdi:zau Tryz.prog vTab Tryz.f37 Zmn=some (zov,[]):=by kernel_rfl
theorem Zdj:zau Tryz.prog vTab Tryz.f38 Zmo=some (zw6,[]):=by kernel_rfl
theorem Zdk:zau Tryz.prog vTab Tryz.f39 Zmp=some (Za7,[]):=by kernel_rfl
theorem Zdl:zau Tryz.prog vTab Tryz.f40 Zmq=some (zye,[]):=by kernel_rfl
theorem Zdm:zau Tryz.prog vTab Tryz.f41 Zmr=some (zg0,[]):=by kernel_rfl
theorem Zdn:zau Tryz.prog vTab Tryz.f52 Zms=some (Zil,[]):=by kernel_rfl
theorem Zdo:zau Tryz.prog vTab Tryz.f53 Zmt=some (Zfn,[]):=by kernel_rfl
theorem Zdp:zau Tryz.prog vTab Tryz.f54 Zmu=some (z3i,[]):=by kernel_rfl
theorem Zdq:zau Tryz.prog vTab Tryz.f55 Zmv=some (z8e,[]):=by kernel_rfl
theorem Zdr:zau Tryz.prog vTab Tryz.f56 Zmw=some (zmk,[]):=by kernel_rfl
theorem Zds:zau Tryz.prog vTab Tryz.f58 Zmx=some (z8f,[]):=by kernel_rfl
theorem Zdt:zau Tryz.prog vTab Tryz.f59 Zmy=some (z3j,[]):=by kernel_rfl
theorem Zdu:zau Tryz.prog vTab Tryz.f60 Zmz=some (zml,[]):=by kernel_rfl
theorem Zdv:zau Tryz.prog vTab Tryz.f61 Zm0=some (zza,[]):=by kernel_rfl
theorem Zdw:zau Tryz.prog vTab Tryz.f66 Zm1=some (Za8,[]):=by kernel_rfl
theorem Zdx:zau Tryz.prog vTab Tryz.f67 Zm2=some (Za9,[]):=by kernel_rfl
theorem Zdy:zau Tryz.prog vTab Tryz.f68 Zm3=some (Zba,[]):=by kernel_rfl
theorem Zdz:zau Tryz.prog vTab Tryz.f71 Zm4=some (z6d,[]):=by kernel_rfl
theorem Zd0:zau Tryz.prog vTab Tryz.f72 Zm5=some (zyf,[]):=by kernel_rfl
theorem Zd1:zau Tryz.prog vTab Tryz.f73 Zm6=some (Zfo,[]):=by kernel_rfl
theorem Zd2:zau Tryz.prog vTab Tryz.f75 Zm7=some (zub,[]):=by kernel_rfl
theorem Zd3:zau Tryz.prog vTab Tryz.f76 Zm8=some (z8g,[]):=by kernel_rfl
theorem Zd4:zau Tryz.prog vTab Tryz.f77 Zm9=some (z6e,[]):=by kernel_rfl
theorem Zd5:zau Tryz.prog vTab Tryz.f78 Zna=some (z3k,[]):=by kernel_rfl
theorem Zd6:zau Tryz.prog vTab Tryz.f79 Znb=some (Zbb,[]):=by kernel_rfl
theorem Zd7:zau Tryz.prog vTab Tryz.f95 Znc=some (Zfp,[]):=by kernel_rfl
theorem Zd8:zau Tryz.prog vTab Tryz.f116 Znd=some (Zfq,[]):=by kernel_rfl
theorem Zit:∀ p ∈ vTab.fns,∀ args w,(callFunc p.1 args).run Tryz.prog w = .ok (.enter p.1 args) w:=by
 simp only [vTab,List.forall_mem_cons]
 exact ⟨Tryz.call3,Tryz.call12,Tryz.call13,Tryz.call14,Tryz.call15,Tryz.call16,Tryz.call17,Tryz.call18,Tryz.call19,Tryz.call20,Tryz.call21,Tryz.call22,Tryz.call23,Tryz.call24,Tryz.call28,Tryz.call29,Tryz.call30,Tryz.call31,Tryz.call32,Tryz.call33,Tryz.call34,Tryz.call35,Tryz.call36,Tryz.call37,Tryz.call38,Tryz.call39,Tryz.call40,Tryz.call41,Tryz.call42,Tryz.call43,Tryz.call44,Tryz.call45,Tryz.call46,Tryz.call47,Tryz.call48,Tryz.call49,Tryz.call50,Tryz.call51,Tryz.call52,Tryz.call53,Tryz.call54,Tryz.call55,Tryz.call56,Tryz.call57,Tryz.call58,Tryz.call59,Tryz.call60,Tryz.call61,Tryz.call62,Tryz.call63,Tryz.call64,Tryz.call65,Tryz.call66,Tryz.call67,Tryz.call68,Tryz.call69,Tryz.call70,Tryz.call71,Tryz.call72,Tryz.call73,Tryz.call74,Tryz.call75,Tryz.call76,Tryz.call77,Tryz.call78,Tryz.call79,Tryz.call80,Tryz.call90,Tryz.call91,Tryz.call92,Tryz.call93,Tryz.call94,Tryz.call95,Tryz.call96,Tryz.call97,Tryz.call98,Tryz.call99,Tryz.call100,Tryz.call101,Tryz.call102,Tryz.call103,Tryz.call113,Tryz.call114,Tryz.call115,Tryz.call116,Tryz.call117,Tryz.call118,Tryz.call119,Tryz.call122,Tryz.call123,Tryz.call124,Tryz.call125,Tryz.call126,Tryz.call127,Tryz.call128,Tryz.call137,Tryz.call139,by simp⟩
theorem Ziu:∀ p ∈ vTab.fns,CodeAt Tryz.prog vTab tF p:=by
 simp only [vTab,List.forall_mem_cons]
 exact ⟨zaj (by kernel_rfl) Tryz.func3 Zc6,zaj (by kernel_rfl) Tryz.func12 Zc7,zaj (by kernel_rfl) Tryz.func13 Zc8,zaj (by kernel_rfl) Tryz.func14 Zc9,zaj (by kernel_rfl) Tryz.func15 Zbq,zaj (by kernel_rfl) Tryz.func16 Zda,zaj (by kernel_rfl) Tryz.func17 Zcx,zaj (by kernel_rfl) Tryz.func18 Zcw,zaj (by kernel_rfl) Tryz.func19 Zcy,zaj (by kernel_rfl) Tryz.func20 Zdb,zaj (by kernel_rfl) Tryz.func21 Zb2,zaj (by kernel_rfl) Tryz.func22 Zdc,zaj (by kernel_rfl) Tryz.func23 Zdd,zaj (by kernel_rfl) Tryz.func24 Zbs,zaj (by kernel_rfl) Tryz.func28 Zbp,zaj (by kernel_rfl) Tryz.func29 Zbr,zaj (by kernel_rfl) Tryz.func30 Zb3,zaj (by kernel_rfl) Tryz.func31 Zde,zaj (by kernel_rfl) Tryz.func32 Zcz,zaj (by kernel_rfl) Tryz.func33 Zdf,zaj (by kernel_rfl) Tryz.func34 Zbx,zaj (by kernel_rfl) Tryz.func35 Zdg,zaj (by kernel_rfl) Tryz.func36 Zdh,zaj (by kernel_rfl) Tryz.func37 Zdi,zaj (by kernel_rfl) Tryz.func38 Zdj,zaj (by kernel_rfl) Tryz.func39 Zdk,zaj (by kernel_rfl) Tryz.func40 Zdl,zaj (by kernel_rfl) Tryz.func41 Zdm,zaj (by kernel_rfl) Tryz.func42 Zbv,zaj (by kernel_rfl) Tryz.func43 Zb4,zaj (by kernel_rfl) Tryz.func44 Zbz,zaj (by kernel_rfl) Tryz.func45 Zb1,zaj (by kernel_rfl) Tryz.func46 Zc1,zaj (by kernel_rfl) Tryz.func47 Zc2,zaj (by kernel_rfl) Tryz.func48 Zc0,zaj (by kernel_rfl) Tryz.func49 Zc3,zaj (by kernel_rfl) Tryz.func50 Zcb,znu (by kernel_rfl) (z4d Znl),zaj (by kernel_rfl) Tryz.func52 Zdn,zaj (by kernel_rfl) Tryz.func53 Zdo,zaj (by kernel_rfl) Tryz.func54 Zdp,zaj (by kernel_rfl) Tryz.func55 Zdq,zaj (by kernel_rfl) Tryz.func56 Zdr,zaj (by kernel_rfl) Tryz.func57 Zbu,zaj (by kernel_rfl) Tryz.func58 Zds,zaj (by kernel_rfl) Tryz.func59 Zdt,zaj (by kernel_rfl) Tryz.func60 Zdu,zaj (by kernel_rfl) Tryz.func61 Zdv,zaj (by kernel_rfl) Tryz.func62 Zch,zaj (by kernel_rfl) Tryz.func63 Zbt,zaj (by kernel_rfl) Tryz.func64 Zc5,zaj (by kernel_rfl) Tryz.func65 Zc4,zaj (by kernel_rfl) Tryz.func66 Zdw,zaj (by kernel_rfl) Tryz.func67 Zdx,zaj (by kernel_rfl) Tryz.func68 Zdy,znu (by kernel_rfl) (z9d Zno (by kernel_rfl)),znu (by kernel_rfl) (z4e Znn),zaj (by kernel_rfl) Tryz.func71 Zdz,zaj (by kernel_rfl) Tryz.func72 Zd0,zaj (by kernel_rfl) Tryz.func73 Zd1,zaj (by kernel_rfl) Tryz.func74 Zbw,zaj (by kernel_rfl) Tryz.func75 Zd2,zaj (by kernel_rfl) Tryz.func76 Zd3,zaj (by kernel_rfl) Tryz.func77 Zd4,zaj (by kernel_rfl) Tryz.func78 Zd5,zaj (by kernel_rfl) Tryz.func79 Zd6,zaj (by kernel_rfl) Tryz.func80 Zb5,zaj (by kernel_rfl) Tryz.func90 Zb6,zaj (by kernel_rfl) Tryz.func91 Zb7,zaj (by kernel_rfl) Tryz.func92 Zb8,zaj (by kernel_rfl) Tryz.func93 Zb9,zaj (by kernel_rfl) Tryz.func94 Zca,zaj (by kernel_rfl) Tryz.func95 Zd7,zaj (by kernel_rfl) Tryz.func96 Zb0,znu (by kernel_rfl) (z0a Znm),znu (by kernel_rfl) (zz8 Znk),zaj (by kernel_rfl) Tryz.func99 Zby,zaj (by kernel_rfl) Tryz.func100 Zci,zaj (by kernel_rfl) Tryz.func101 Zcj,zaj (by kernel_rfl) Tryz.func102 Zck,zaj (by kernel_rfl) Tryz.func103 Zcl,zaj (by kernel_rfl) Tryz.func113 Zcm,zaj (by kernel_rfl) Tryz.func114 Zcn,zaj (by kernel_rfl) Tryz.func115 Zco,zaj (by kernel_rfl) Tryz.func116 Zd8,zaj (by kernel_rfl) Tryz.func117 Zce,zaj (by kernel_rfl) Tryz.func118 Zcf,zaj (by kernel_rfl) Tryz.func119 Zcg,zaj (by kernel_rfl) Tryz.func122 Zcc,zaj (by kernel_rfl) Tryz.func123 Zcd,zaj (by kernel_rfl) Tryz.func124 Zcr,zaj (by kernel_rfl) Tryz.func125 Zcs,zaj (by kernel_rfl) Tryz.func126 Zct,zaj (by kernel_rfl) Tryz.func127 Zcu,zaj (by kernel_rfl) Tryz.func128 Zcv,zaj (by kernel_rfl) Tryz.func137 Zcq,zaj (by kernel_rfl) Tryz.func139 Zcp,fun p h=>by cases h⟩
theorem Zks:∀ p ∈ vTab.rnds,z35 Tryz.prog vTab tF p:=by
 exact fun p h=>absurd h List.not_mem_nil
theorem Zd9:TabOk Tryz.prog vTab tF:=Zf4 Zit (by kernel_rfl) Ziu Zks
theorem zu8 {H:Type}{P:Program}{enc:TypeId × Value→H}{W:World}{sp:Nat→Bool}:∀ {ts:List TypeId} {vs:List Value} {ds:List (DataW H)} {ps:List MemPlace},DataW.TrodAll enc P W 0 sp true ts vs ds ps→ds.length=ts.length
 | [],[],[],ps,_=>rfl
 | t :: ts,v :: vs,d :: ds,ps,⟨p,q,h1,h2,e⟩=>by simp [zu8 h2]
 | [],[],_ :: _,_,h=>h.elim
 | [],_ :: _,_,_,h=>h.elim
 | _ :: _,[],_,_,h=>h.elim
 | _ :: _,_ :: _,[],_,h=>h.elim
theorem own:ownKnob Tryz.prog.godebug=none:=by kernel_rfl
theorem Ziv:laidOutB Tryz.prog=true:=by kernel_rfl
end Go.Proofs.YtblhbdagpefloaaGreatDoor
