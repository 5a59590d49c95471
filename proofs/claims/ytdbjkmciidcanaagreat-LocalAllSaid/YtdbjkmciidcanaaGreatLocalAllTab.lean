/-
 LocalAll: the table of the functions that are reached: each is what was compiled of it.
-/
import Derived.Test.YtdbjkmciidcanaaGreatRows
import Derived.ProofKit
import Derived.Test.YtdbjkmciidcanaaGreatPack3
import Derived.Test.YtdbjkmciidcanaaGreatText4
namespace Go.Proofs.YtdbjkmciidcanaaGreat
open Go Go.ChangeShapes Go.WideShapes Go.ChangeAt Go.RowKit Ab
set_option linter.unusedVariables false
set_option maxRecDepth 100000
noncomputable def vTab:Tab:={ fns:=[(4,760),(9,108),(10,168),(11,170),(12,169),(13,402),(14,181),(15,173),(16,182),(17,174),(18,171),(19,172),(20,666),(29,123),(30,183),(31,188),(32,189),(33,190),(34,184),(35,185),(36,186),(37,187),(38,393),(39,418),(40,419),(41,268),(42,420),(43,197),(44,191),(45,192),(46,411),(47,175),(61,198),(62,199),(63,200),(64,201),(65,202),(66,203),(67,204),(68,205),(69,206),(70,207),(71,208),(72,209),(73,210),(74,211),(75,212),(76,213),(77,214),(78,412),(79,275),(87,216),(88,217),(89,218),(90,219),(91,220),(92,221),(93,222),(94,223),(95,224),(96,225),(97,226),(98,227),(99,228),(100,229),(101,230),(102,231),(103,232),(104,429),(105,278),(106,110),(113,233),(114,234),(115,235),(116,236),(117,237),(118,238),(119,239),(120,240),(121,113),(122,115),(123,111),(124,241),(125,131),(126,112),(127,125),(128,139),(129,140),(130,141),(131,142),(132,151),(133,114),(134,152),(135,153),(136,154),(137,129),(138,137),(139,155),(140,126),(141,127),(142,128),(143,130),(144,145),(145,143),(146,144)],rnds:=[] }
theorem Zfh:zak Tryz.prog vTab Tryz.f9 Zop=some (Zi1,[]):=by kernel_rfl
theorem Zfi:zak Tryz.prog vTab Tryz.f106 Zoq=some (z42,[]):=by kernel_rfl
theorem Zfj:zak Tryz.prog vTab Tryz.f123 Zor=some (Zi2,[]):=by kernel_rfl
theorem Zfk:zak Tryz.prog vTab Tryz.f126 Zos=some (Zdv,[]):=by kernel_rfl
theorem Zfl:zak Tryz.prog vTab Tryz.f121 Zot=some (z28,[]):=by kernel_rfl
theorem Zfm:zak Tryz.prog vTab Tryz.f133 Zou=some (Zlk,[]):=by kernel_rfl
theorem Zfn:zak Tryz.prog vTab Tryz.f122 Zov=some (Znl,[]):=by kernel_rfl
theorem Zfo:zak Tryz.prog vTab Tryz.f29 Zow=some (Zdw,[]):=by kernel_rfl
theorem Zfp:zak Tryz.prog vTab Tryz.f127 Zox=some (Zi3,[]):=by kernel_rfl
theorem Zfq:zak Tryz.prog vTab Tryz.f140 Zoy=some (Zll,[]):=by kernel_rfl
theorem Zfr:zak Tryz.prog vTab Tryz.f141 Zoz=some (Zlm,[]):=by kernel_rfl
theorem Zfs:zak Tryz.prog vTab Tryz.f142 Zo0=some (Zln,[]):=by kernel_rfl
theorem Zft:zak Tryz.prog vTab Tryz.f137 Zo1=some (Zlo,[]):=by kernel_rfl
theorem Zfu:zak Tryz.prog vTab Tryz.f143 Zo2=some (Zlp,[]):=by kernel_rfl
theorem Zfv:zak Tryz.prog vTab Tryz.f125 Zo3=some (Znm,[]):=by kernel_rfl
theorem Zfw:zak Tryz.prog vTab Tryz.f138 Zo4=some (Zlq,[]):=by kernel_rfl
theorem Zfx:zak Tryz.prog vTab Tryz.f128 Zo5=some (Zi4,[]):=by kernel_rfl
theorem Zfy:zak Tryz.prog vTab Tryz.f129 Zo6=some (Zi5,[]):=by kernel_rfl
theorem Zfz:zak Tryz.prog vTab Tryz.f130 Zo7=some (Zlr,[]):=by kernel_rfl
theorem Zf0:zak Tryz.prog vTab Tryz.f131 Zo8=some (Zls,[]):=by kernel_rfl
theorem Zf1:zak Tryz.prog vTab Tryz.f145 Zo9=some (Zlt,[]):=by kernel_rfl
theorem Zf2:zak Tryz.prog vTab Tryz.f146 Zpa=some (Zlu,[]):=by kernel_rfl
theorem Zf3:zak Tryz.prog vTab Tryz.f144 Zpb=some (Zlv,[]):=by kernel_rfl
theorem Zf4:zak Tryz.prog vTab Tryz.f132 Zpc=some (Zlw,[]):=by kernel_rfl
theorem Zf5:zak Tryz.prog vTab Tryz.f134 Zpd=some (Zlx,[]):=by kernel_rfl
theorem Zf6:zak Tryz.prog vTab Tryz.f135 Zpe=some (Zly,[]):=by kernel_rfl
theorem Zf7:zak Tryz.prog vTab Tryz.f136 Zpf=some (Zlz,[]):=by kernel_rfl
theorem Zf8:zak Tryz.prog vTab Tryz.f139 Zpg=some (Zl0,[]):=by kernel_rfl
theorem Zf9:zak Tryz.prog vTab Tryz.f10 Zph=some (zoc,[]):=by kernel_rfl
theorem Zga:zak Tryz.prog vTab Tryz.f12 Zpi=some (Za1,[]):=by kernel_rfl
theorem Zgb:zak Tryz.prog vTab Tryz.f11 Zpj=some (Znn,[]):=by kernel_rfl
theorem Zgc:zak Tryz.prog vTab Tryz.f18 Zpk=some (Zno,[]):=by kernel_rfl
theorem Zgd:zak Tryz.prog vTab Tryz.f19 Zpl=some (zxw,[]):=by kernel_rfl
theorem Zge:zak Tryz.prog vTab Tryz.f15 Zpm=some (Za2,[]):=by kernel_rfl
theorem Zgf:zak Tryz.prog vTab Tryz.f17 Zpn=some (z9k,[]):=by kernel_rfl
theorem Zgg:zak Tryz.prog vTab Tryz.f47 Zpo=some (z43,[]):=by kernel_rfl
theorem Zgh:zak Tryz.prog vTab Tryz.f14 Zpp=some (Zi6,[]):=by kernel_rfl
theorem Zgi:zak Tryz.prog vTab Tryz.f16 Zpq=some (Zdx,[]):=by kernel_rfl
theorem Zgj:zak Tryz.prog vTab Tryz.f30 Zpr=some (zrd,[]):=by kernel_rfl
theorem Zgk:zak Tryz.prog vTab Tryz.f34 Zps=some (zuf,[]):=by kernel_rfl
theorem Zgl:zak Tryz.prog vTab Tryz.f35 Zpt=some (Zi7,[]):=by kernel_rfl
theorem Zgm:zak Tryz.prog vTab Tryz.f36 Zpu=some (Zi8,[]):=by kernel_rfl
theorem Zgn:zak Tryz.prog vTab Tryz.f37 Zpv=some (Zi9,[]):=by kernel_rfl
theorem Zgo:zak Tryz.prog vTab Tryz.f31 Zpw=some (Zdy,[]):=by kernel_rfl
theorem Zgp:zak Tryz.prog vTab Tryz.f32 Zpx=some (Zja,[]):=by kernel_rfl
theorem Zgq:zak Tryz.prog vTab Tryz.f33 Zpy=some (Znp,[]):=by kernel_rfl
theorem Zgr:zak Tryz.prog vTab Tryz.f44 Zpz=some (z67,[]):=by kernel_rfl
theorem Zgs:zak Tryz.prog vTab Tryz.f45 Zp0=some (zy2,[]):=by kernel_rfl
theorem Zgt:zak Tryz.prog vTab Tryz.f43 Zp1=some (Za3,[]):=by kernel_rfl
theorem Zgu:zak Tryz.prog vTab Tryz.f61 Zp2=some (Zdz,[]):=by kernel_rfl
theorem Zgv:zak Tryz.prog vTab Tryz.f62 Zp3=some (Zd0,[]):=by kernel_rfl
theorem Zgw:zak Tryz.prog vTab Tryz.f63 Zp4=some (Zd1,[]):=by kernel_rfl
theorem Zgx:zak Tryz.prog vTab Tryz.f64 Zp5=some (zsd,[]):=by kernel_rfl
theorem Zgy:zak Tryz.prog vTab Tryz.f65 Zp6=some (Zd2,[]):=by kernel_rfl
theorem Zgz:zak Tryz.prog vTab Tryz.f66 Zp7=some (Zl1,[]):=by kernel_rfl
theorem Zg0:zak Tryz.prog vTab Tryz.f67 Zp8=some (Zjb,[]):=by kernel_rfl
theorem Zg1:zak Tryz.prog vTab Tryz.f68 Zp9=some (z9l,[]):=by kernel_rfl
theorem Zg2:zak Tryz.prog vTab Tryz.f69 Zqa=some (Zjc,[]):=by kernel_rfl
theorem Zg3:zak Tryz.prog vTab Tryz.f70 Zqb=some (zy3,[]):=by kernel_rfl
theorem Zg4:zak Tryz.prog vTab Tryz.f71 Zqc=some (Zjd,[]):=by kernel_rfl
theorem Zg5:zak Tryz.prog vTab Tryz.f72 Zqd=some (z01,[]):=by kernel_rfl
theorem Zg6:zak Tryz.prog vTab Tryz.f73 Zqe=some (Zje,[]):=by kernel_rfl
theorem Zg7:zak Tryz.prog vTab Tryz.f74 Zqf=some (zy4,[]):=by kernel_rfl
theorem Zg8:zak Tryz.prog vTab Tryz.f75 Zqg=some (Zjf,[]):=by kernel_rfl
theorem Zg9:zak Tryz.prog vTab Tryz.f76 Zqh=some (Zjg,[]):=by kernel_rfl
theorem Zha:zak Tryz.prog vTab Tryz.f77 Zqi=some (z9m,[]):=by kernel_rfl
theorem Zhb:zak Tryz.prog vTab Tryz.f87 Zqj=some (Zd3,[]):=by kernel_rfl
theorem Zhc:zak Tryz.prog vTab Tryz.f88 Zqk=some (z68,[]):=by kernel_rfl
theorem Zhd:zak Tryz.prog vTab Tryz.f89 Zql=some (Zl2,[]):=by kernel_rfl
theorem Zhe:zak Tryz.prog vTab Tryz.f90 Zqm=some (Zjh,[]):=by kernel_rfl
theorem Zhf:zak Tryz.prog vTab Tryz.f91 Zqn=some (zug,[]):=by kernel_rfl
theorem Zhg:zak Tryz.prog vTab Tryz.f92 Zqo=some (Zl3,[]):=by kernel_rfl
theorem Zhh:zak Tryz.prog vTab Tryz.f93 Zqp=some (Zl4,[]):=by kernel_rfl
theorem Zhi:zak Tryz.prog vTab Tryz.f94 Zqq=some (Zji,[]):=by kernel_rfl
theorem Zhj:zak Tryz.prog vTab Tryz.f95 Zqr=some (z69,[]):=by kernel_rfl
theorem Zhk:zak Tryz.prog vTab Tryz.f96 Zqs=some (z7a,[]):=by kernel_rfl
theorem Zhl:zak Tryz.prog vTab Tryz.f97 Zqt=some (Zjj,[]):=by kernel_rfl
theorem Zhm:zak Tryz.prog vTab Tryz.f98 Zqu=some (Zjk,[]):=by kernel_rfl
theorem Zhn:zak Tryz.prog vTab Tryz.f99 Zqv=some (zy5,[]):=by kernel_rfl
theorem Zho:zak Tryz.prog vTab Tryz.f100 Zqw=some (Zl5,[]):=by kernel_rfl
theorem Zhp:zak Tryz.prog vTab Tryz.f101 Zqx=some (Zjl,[]):=by kernel_rfl
theorem Zhq:zak Tryz.prog vTab Tryz.f102 Zqy=some (Zl6,[]):=by kernel_rfl
theorem Zhr:zak Tryz.prog vTab Tryz.f103 Zqz=some (Zjm,[]):=by kernel_rfl
theorem Zhs:zak Tryz.prog vTab Tryz.f113 Zq0=some (Zl7,[]):=by kernel_rfl
theorem Zht:zak Tryz.prog vTab Tryz.f114 Zq1=some (Zl8,[]):=by kernel_rfl
theorem Zhu:zak Tryz.prog vTab Tryz.f115 Zq2=some (z29,[]):=by kernel_rfl
theorem Zhv:zak Tryz.prog vTab Tryz.f116 Zq3=some (zse,[]):=by kernel_rfl
theorem Zhw:zak Tryz.prog vTab Tryz.f117 Zq4=some (zis,[]):=by kernel_rfl
theorem Zhx:zak Tryz.prog vTab Tryz.f118 Zq5=some (Zjn,[]):=by kernel_rfl
theorem Zhy:zak Tryz.prog vTab Tryz.f119 Zq6=some (Zl9,[]):=by kernel_rfl
theorem Zhz:zak Tryz.prog vTab Tryz.f120 Zq7=some (Zma,[]):=by kernel_rfl
theorem Zh0:zak Tryz.prog vTab Tryz.f124 Zq8=some (z9n,[]):=by kernel_rfl
theorem Zh1:zak Tryz.prog vTab Tryz.f41 Zq9=some (Za4,[]):=by kernel_rfl
theorem Zh2:zak Tryz.prog vTab Tryz.f79 Zra=some (zen,[]):=by kernel_rfl
theorem Zh3:zak Tryz.prog vTab Tryz.f105 Zrb=some (zn8,[]):=by kernel_rfl
theorem Zh4:zak Tryz.prog vTab Tryz.f38 Zrc=some (zh5,[]):=by kernel_rfl
theorem Zh5:zak Tryz.prog vTab Tryz.f13 Zrd=some (zl0,[]):=by kernel_rfl
theorem Zh6:zak Tryz.prog vTab Tryz.f46 Zre=some (zsf,[]):=by kernel_rfl
theorem Zh7:zak Tryz.prog vTab Tryz.f78 Zrf=some (zxx,[]):=by kernel_rfl
theorem Zh8:zak Tryz.prog vTab Tryz.f39 Zrg=some (z7b,[]):=by kernel_rfl
theorem Zh9:zak Tryz.prog vTab Tryz.f40 Zrh=some (z7c,[]):=by kernel_rfl
theorem Zia:zak Tryz.prog vTab Tryz.f42 Zri=some (zuh,[]):=by kernel_rfl
theorem Zib:zak Tryz.prog vTab Tryz.f104 Zrj=some (zre,[]):=by kernel_rfl
theorem Zic:zak Tryz.prog vTab Tryz.f20 Zrk=some (zrf,[]):=by kernel_rfl
theorem Zid:zak Tryz.prog vTab Tryz.f4 Zrl=some (zv2,[]):=by kernel_rfl
theorem Zmv:∀ p ∈ vTab.fns,∀ args w,(callFunc p.1 args).run Tryz.prog w = .ok (.enter p.1 args) w:=by
 simp only [vTab,List.forall_mem_cons]
 exact ⟨Tryz.call4,Tryz.call9,Tryz.call10,Tryz.call11,Tryz.call12,Tryz.call13,Tryz.call14,Tryz.call15,Tryz.call16,Tryz.call17,Tryz.call18,Tryz.call19,Tryz.call20,Tryz.call29,Tryz.call30,Tryz.call31,Tryz.call32,Tryz.call33,Tryz.call34,Tryz.call35,Tryz.call36,Tryz.call37,Tryz.call38,Tryz.call39,Tryz.call40,Tryz.call41,Tryz.call42,Tryz.call43,Tryz.call44,Tryz.call45,Tryz.call46,Tryz.call47,Tryz.call61,Tryz.call62,Tryz.call63,Tryz.call64,Tryz.call65,Tryz.call66,Tryz.call67,Tryz.call68,Tryz.call69,Tryz.call70,Tryz.call71,Tryz.call72,Tryz.call73,Tryz.call74,Tryz.call75,Tryz.call76,Tryz.call77,Tryz.call78,Tryz.call79,Tryz.call87,Tryz.call88,Tryz.call89,Tryz.call90,Tryz.call91,Tryz.call92,Tryz.call93,Tryz.call94,Tryz.call95,Tryz.call96,Tryz.call97,Tryz.call98,Tryz.call99,Tryz.call100,Tryz.call101,Tryz.call102,Tryz.call103,Tryz.call104,Tryz.call105,Tryz.call106,Tryz.call113,Tryz.call114,Tryz.call115,Tryz.call116,Tryz.call117,Tryz.call118,Tryz.call119,Tryz.call120,Tryz.call121,Tryz.call122,Tryz.call123,Tryz.call124,Tryz.call125,Tryz.call126,Tryz.call127,Tryz.call128,Tryz.call129,Tryz.call130,Tryz.call131,Tryz.call132,Tryz.call133,Tryz.call134,Tryz.call135,Tryz.call136,Tryz.call137,Tryz.call138,Tryz.call139,Tryz.call140,Tryz.call141,Tryz.call142,Tryz.call143,Tryz.call144,Tryz.call145,Tryz.call146,by simp⟩
theorem Zmw:∀ p ∈ vTab.fns,CodeAt Tryz.prog vTab tF p:=by
 simp only [vTab,List.forall_mem_cons]
 exact ⟨zae (by kernel_rfl) Tryz.func4 Zid,zae (by kernel_rfl) Tryz.func9 Zfh,zae (by kernel_rfl) Tryz.func10 Zf9,zae (by kernel_rfl) Tryz.func11 Zgb,zae (by kernel_rfl) Tryz.func12 Zga,zae (by kernel_rfl) Tryz.func13 Zh5,zae (by kernel_rfl) Tryz.func14 Zgh,zae (by kernel_rfl) Tryz.func15 Zge,zae (by kernel_rfl) Tryz.func16 Zgi,zae (by kernel_rfl) Tryz.func17 Zgf,zae (by kernel_rfl) Tryz.func18 Zgc,zae (by kernel_rfl) Tryz.func19 Zgd,zae (by kernel_rfl) Tryz.func20 Zic,zae (by kernel_rfl) Tryz.func29 Zfo,zae (by kernel_rfl) Tryz.func30 Zgj,zae (by kernel_rfl) Tryz.func31 Zgo,zae (by kernel_rfl) Tryz.func32 Zgp,zae (by kernel_rfl) Tryz.func33 Zgq,zae (by kernel_rfl) Tryz.func34 Zgk,zae (by kernel_rfl) Tryz.func35 Zgl,zae (by kernel_rfl) Tryz.func36 Zgm,zae (by kernel_rfl) Tryz.func37 Zgn,zae (by kernel_rfl) Tryz.func38 Zh4,zae (by kernel_rfl) Tryz.func39 Zh8,zae (by kernel_rfl) Tryz.func40 Zh9,zae (by kernel_rfl) Tryz.func41 Zh1,zae (by kernel_rfl) Tryz.func42 Zia,zae (by kernel_rfl) Tryz.func43 Zgt,zae (by kernel_rfl) Tryz.func44 Zgr,zae (by kernel_rfl) Tryz.func45 Zgs,zae (by kernel_rfl) Tryz.func46 Zh6,zae (by kernel_rfl) Tryz.func47 Zgg,zae (by kernel_rfl) Tryz.func61 Zgu,zae (by kernel_rfl) Tryz.func62 Zgv,zae (by kernel_rfl) Tryz.func63 Zgw,zae (by kernel_rfl) Tryz.func64 Zgx,zae (by kernel_rfl) Tryz.func65 Zgy,zae (by kernel_rfl) Tryz.func66 Zgz,zae (by kernel_rfl) Tryz.func67 Zg0,zae (by kernel_rfl) Tryz.func68 Zg1,zae (by kernel_rfl) Tryz.func69 Zg2,zae (by kernel_rfl) Tryz.func70 Zg3,zae (by kernel_rfl) Tryz.func71 Zg4,zae (by kernel_rfl) Tryz.func72 Zg5,zae (by kernel_rfl) Tryz.func73 Zg6,zae (by kernel_rfl) Tryz.func74 Zg7,zae (by kernel_rfl) Tryz.func75 Zg8,zae (by kernel_rfl) Tryz.func76 Zg9,zae (by kernel_rfl) Tryz.func77 Zha,zae (by kernel_rfl) Tryz.func78 Zh7,zae (by kernel_rfl) Tryz.func79 Zh2,zae (by kernel_rfl) Tryz.func87 Zhb,zae (by kernel_rfl) Tryz.func88 Zhc,zae (by kernel_rfl) Tryz.func89 Zhd,zae (by kernel_rfl) Tryz.func90 Zhe,zae (by kernel_rfl) Tryz.func91 Zhf,zae (by kernel_rfl) Tryz.func92 Zhg,zae (by kernel_rfl) Tryz.func93 Zhh,zae (by kernel_rfl) Tryz.func94 Zhi,zae (by kernel_rfl) Tryz.func95 Zhj,zae (by kernel_rfl) Tryz.func96 Zhk,zae (by kernel_rfl) Tryz.func97 Zhl,zae (by kernel_rfl) Tryz.func98 Zhm,zae (by kernel_rfl) Tryz.func99 Zhn,zae (by kernel_rfl) Tryz.func100 Zho,zae (by kernel_rfl) Tryz.func101 Zhp,zae (by kernel_rfl) Tryz.func102 Zhq,zae (by kernel_rfl) Tryz.func103 Zhr,zae (by kernel_rfl) Tryz.func104 Zib,zae (by kernel_rfl) Tryz.func105 Zh3,zae (by kernel_rfl) Tryz.func106 Zfi,zae (by kernel_rfl) Tryz.func113 Zhs,zae (by kernel_rfl) Tryz.func114 Zht,zae (by kernel_rfl) Tryz.func115 Zhu,zae (by kernel_rfl) Tryz.func116 Zhv,zae (by kernel_rfl) Tryz.func117 Zhw,zae (by kernel_rfl) Tryz.func118 Zhx,zae (by kernel_rfl) Tryz.func119 Zhy,zae (by kernel_rfl) Tryz.func120 Zhz,zae (by kernel_rfl) Tryz.func121 Zfl,zae (by kernel_rfl) Tryz.func122 Zfn,zae (by kernel_rfl) Tryz.func123 Zfj,zae (by kernel_rfl) Tryz.func124 Zh0,zae (by kernel_rfl) Tryz.func125 Zfv,zae (by kernel_rfl) Tryz.func126 Zfk,zae (by kernel_rfl) Tryz.func127 Zfp,zae (by kernel_rfl) Tryz.func128 Zfx,zae (by kernel_rfl) Tryz.func129 Zfy,zae (by kernel_rfl) Tryz.func130 Zfz,zae (by kernel_rfl) Tryz.func131 Zf0,zae (by kernel_rfl) Tryz.func132 Zf4,zae (by kernel_rfl) Tryz.func133 Zfm,zae (by kernel_rfl) Tryz.func134 Zf5,zae (by kernel_rfl) Tryz.func135 Zf6,zae (by kernel_rfl) Tryz.func136 Zf7,zae (by kernel_rfl) Tryz.func137 Zft,zae (by kernel_rfl) Tryz.func138 Zfw,zae (by kernel_rfl) Tryz.func139 Zf8,zae (by kernel_rfl) Tryz.func140 Zfq,zae (by kernel_rfl) Tryz.func141 Zfr,zae (by kernel_rfl) Tryz.func142 Zfs,zae (by kernel_rfl) Tryz.func143 Zfu,zae (by kernel_rfl) Tryz.func144 Zf3,zae (by kernel_rfl) Tryz.func145 Zf1,zae (by kernel_rfl) Tryz.func146 Zf2,fun p h=>by cases h⟩
theorem Zro:∀ p ∈ vTab.rnds,z53 Tryz.prog vTab tF p:=by
 exact fun p h=>absurd h List.not_mem_nil
theorem Zie:TabOk Tryz.prog vTab tF:=Zem Zmv (by kernel_rfl) Zmw Zro
theorem zw9 {H:Type}{P:Program}{enc:TypeId × Value→H}{W:World}{sp:Nat→Bool}:∀ {ts:List TypeId} {vs:List Value} {ds:List (DataW H)} {ps:List MemPlace},DataW.TrodAll enc P W 0 sp true ts vs ds ps→ds.length=ts.length
 | [],[],[],ps,_=>rfl
 | t :: ts,v :: vs,d :: ds,ps,⟨p,q,h1,h2,e⟩=>by simp [zw9 h2]
 | [],[],_ :: _,_,h=>h.elim
 | [],_ :: _,_,_,h=>h.elim
 | _ :: _,[],_,_,h=>h.elim
 | _ :: _,_ :: _,[],_,h=>h.elim
theorem own:ownKnob Tryz.prog.godebug=none:=by kernel_rfl
theorem Zaq:laidOutB Tryz.prog=true:=by kernel_rfl
end Go.Proofs.YtdbjkmciidcanaaGreat
