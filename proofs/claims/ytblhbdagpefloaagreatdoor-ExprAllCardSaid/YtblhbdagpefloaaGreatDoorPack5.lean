/-
 slices.Insert at rows of four cells: its roads, over any program in which the library's body stands.
-/
import Derived.Test.YtblhbdagpefloaaGreatDoorPack3
import Derived.Shelf.Spec.SlicesInsertGrow
import Derived.Shelf.Slices.Clone
import Derived.Shelf.Strconv.ParseIntPublic10
import Derived.Shelf.Strings.SlTrimAscii
import Derived.Shelf.Slices.Delete
set_option linter.unusedSimpArgs false
set_option linter.unusedVariables false
set_option linter.unusedSectionVars false
set_option linter.unnecessarySimpa false
namespace Ab
open Go
open Go.RowKit (Below)
open Go.Shelf Go.Lib Go.Proofs
noncomputable def insFn (ρ:Ren) (nm:String) (ta:Array TypeId):Func:={ Body2.n22 ρ with name:=nm,targs:=ta }
theorem zg9 (ρ:Ren)(nm:String)(ta:Array TypeId):(insFn ρ nm ta).ntmps=95:=rfl
abbrev zpr:Value:=.agg #[.int .i64 0,.int .i64 0,.string ⟨#[]⟩,.slice none 0 0]
structure InsP (P:Program)(ρ:Ren)(fid:FuncId)(nm:String)(ta:Array TypeId):Prop where
 mixed:P.follows .mixedOrders=true
 fn:P.funcs[fid]?=some (insFn ρ nm ta)
 t0:P.underlying (ρ.t 0)=some (TypeDesc.tuple #[])
 t3:P.underlying (ρ.t 3)=some (TypeDesc.int IntKind.i64)
 t4:P.underlying (ρ.t 4)=some (TypeDesc.bool)
 t24:P.underlying (ρ.t 24)=some (TypeDesc.slice (ρ.t 9))
 z24:∀ w,(Go.sizeOf (ρ.t 24)).run P w = .ok 1 w
 z3:∀ w,(Go.sizeOf (ρ.t 3)).run P w = .ok 1 w
 z4:∀ w,(Go.sizeOf (ρ.t 4)).run P w = .ok 1 w
 i9:(P.info? (ρ.t 9)).map (fun i=>(i.zero,i.size,i.bytes))=some (some zpr,4,56)
 ov:∀ args w v,(Extern.SlicesOverlaps.overlaps #[ρ.t 24,ρ.t 24] #[ρ.t 4] args).run P w = .ok v w→(callFunc (ρ.f 29) args).run P w = .ok (.value v) w
section
variable {P:Program} {ρ:Ren} {fid:FuncId} {nm:String} {ta:Array TypeId}
theorem zkk (w:World)(dT sT ty elem:TypeId)(b o dLen dCap:Nat)(a:Addr)(sLen sCap:Nat)(cs:List Value)
  (hu:P.underlying dT=some (.slice elem)) (hs:(P.info? elem).map (·.size)=some 4) (k:Nat) (hk:k=Nat.min sLen dLen) (hn:cs.length=k * 4)
  (hsrc:∀ j v,cs[j]?=some v→w.cell? (a.add j)=some v) (hc:∀ j,j < cs.length→(w.cell? ⟨b,o + j,none⟩).isSome=true) (hf:∀ j,j < cs.length→w.frozen? ⟨b,o + j,none⟩=false) (h1:∀ v ∈ cs,v.oneCell'=true) :
  (Builtin.copy_ #[dT,sT] ty #[.slice (some ⟨b,o,none⟩) dLen dCap,.slice (some a) sLen sCap]).run P w = .ok (goInt (k:Int)) (w.setCells b o cs):=by
 have hl:=run_loadCells_list (P:=P) w a cs hsrc
 have hst:=run_storeCells_cells (P:=P) b o cs 0 w (by simpa using hc) (by simpa using hf) h1
 cases hq:P.info? elem with
 | none=>simp [hq] at hs
 | some i =>
  have hi:i.size=4:=by simpa [hq] using hs
  rw [hn] at hl
  simp [Builtin.copy_,run_underlying hu,Builtin.lenOf,Builtin.firstCells,Go.sizeOf,typeInfo,hq,hi,← hk,hl,hst]
theorem zs4 (L:InsP P ρ fid nm ta):(∀ w,(Go.sizeOf (ρ.t 9)).run P w = .ok 4 w)∧(P.info? (ρ.t 9)).map (·.size)=some 4:=by
 obtain ⟨i,h,h1,h2,h3⟩:=info_parts L.i9
 exact ⟨fun w=>by simp [Go.sizeOf,typeInfo,h,h2],by rw [h]; simp [h2]⟩
set_option maxHeartbeats 4000000 in
set_option maxRecDepth 100000 in
theorem zz7 (L:InsP P ρ fid nm ta)(b off n c i vb voff m vc:Nat)(cs vs:List Value)(w:World)(hi:i < n)(hm:0 < m)(hroom:n + m ≤ c)(hn63:(n + m) * 56 ≤ 140737488355328)
  (hap:vb=b→voff + m * 4 ≤ off ∨ off + (n + m) * 4 ≤ voff)
  (hcl:cs.length=n * 4) (hvl:vs.length=m * 4)
  (hcs:∀ j v,cs[j]?=some v→w.cell? ⟨b,off + j,none⟩=some v) (hsp:∀ j,j < (n + m) * 4→(w.cell? ⟨b,off + j,none⟩).isSome=true) (hfz:∀ q,w.frozen? ⟨b,q,none⟩=false)
  (hvs:∀ j v,vs[j]?=some v→w.cell? ⟨vb,voff + j,none⟩=some v) (h1c:∀ v ∈ cs,v.oneCell'=true) (h1v:∀ v ∈ vs,v.oneCell'=true)
  (hov:∀ cb,(Extern.SlicesOverlaps.overlaps #[ρ.t 24,ρ.t 24] #[ρ.t 4] #[.slice (some ⟨vb,voff,none⟩) m vc,.slice (some ⟨b,off + (i + m) * 4,none⟩) (n + m - (i + m)) cb]).run P w = .ok (.bool false) w) :
  Calls P fid #[.slice (some ⟨b,off,none⟩) n c,.int .i64 i,.slice (some ⟨vb,voff,none⟩) m vc] w fun e w' =>
   e = .returned (.slice (some ⟨b,off,none⟩) (n + m) c)∧w'=(w.drew.setCells b (off + (i + m) * 4) (cs.drop (i * 4))).setCells b (off + i * 4) vs:=by
 have t0:=L.t0; have t3:=L.t3; have z3:=L.z3; have t4:=L.t4; have z4:=L.z4; have t24:=L.t24; have z24:=L.z24
 have z9:=(zs4 L).1; have hsz:=(zs4 L).2
 have u0:=run_underlying L.t0; have u3:=run_underlying L.t3; have u4:=run_underlying L.t4; have u24:=run_underlying L.t24
 have hz1:¬ ((m:Int)=0):=by omega
 have hz2:¬ ((i:Int)=(n:Int)):=by omega
 have hov':∀ cb,(callFunc (ρ.f 29) #[.slice (some ⟨vb,voff,none⟩) m vc,.slice (some ⟨b,off + (i + m) * 4,none⟩) (n + m - (i + m)) cb]).run P w = .ok (.value (.bool false)) w:=fun cb=>L.ov _ _ _ (hov cb)
 have hdl:(cs.drop (i * 4)).length=(n - i) * 4:=by rw [List.length_drop,hcl]; omega
 have mixed:=L.mixed
 have hw1:IntKind.i64.wrap ((i:Int) + (m:Int))=(i:Int) + (m:Int):=by rw [IntKind.wrap_i64]; omega
 have hb1:(0:Int) ≤ (i:Int) + (m:Int):=by omega
 have hin:i ≤ n:=by omega
 have htn:((i:Int) + (m:Int)).toNat=i + m:=by omega
 have hb2:¬ (c=i + m):=by omega
 have hb3:(i:Int) ≤ (n:Int) + (m:Int):=by omega
 have hb4:¬ (c=i):=by omega
 have hcp1:∀ ty dc sc,(Builtin.copy_ #[(ρ.t 24),(ρ.t 24)] ty #[.slice (some ⟨b,off + (i + m) * 4,none⟩) (n + m - (i + m)) dc,.slice (some ⟨b,off + i * 4,none⟩) (n + m - i) sc]).run P w.drew = .ok (goInt ((n - i:Nat):Int)) (w.drew.setCells b (off + (i + m) * 4) (cs.drop (i * 4))):=fun ty dc sc =>
  zkk w.drew _ _ ty (ρ.t 9) b (off + (i + m) * 4) (n + m - (i + m)) dc ⟨b,off + i * 4,none⟩ (n + m - i) sc (cs.drop (i * 4)) L.t24 hsz (n - i) (by simp only [Nat.min_def]; split <;> omega) hdl
   (fun j v hj=>by rw [Addr.add_lit,Nat.add_assoc]; exact hcs (i * 4 + j) v (by rwa [List.getElem?_drop] at hj))
   (fun j hj=>by rw [Nat.add_assoc]; exact hsp _ (by omega)) (fun j hj=>hfz _) (fun v hv=>h1c v (List.mem_of_mem_drop hv))
 obtain ⟨W1,hW1⟩:∃ W1,W1=w.drew.setCells b (off + (i + m) * 4) (cs.drop (i * 4)):=⟨_,rfl⟩
 have hsp1:∀ k,k < (n + m) * 4→(W1.cell? ⟨b,off + k,none⟩).isSome=true:=fun k hk=>by
  rw [hW1]
  exact isSome_setCells b _ _ _ (fun j hj=>by rw [Nat.add_assoc]; exact hsp _ (by omega)) _ (hsp k hk)
 have hcp2:∀ (W:World),(∀ x,W.cell? x=W1.cell? x)→(∀ x,W.frozen? x=W1.frozen? x)→∀ ty dc,(Builtin.copy_ #[(ρ.t 24),(ρ.t 24)] ty #[.slice (some ⟨b,off + i * 4,none⟩) (n + m - i) dc,.slice (some ⟨vb,voff,none⟩) m vc]).run P W = .ok (goInt (m:Int)) (W.setCells b (off + i * 4) vs):=fun W hWc hWf ty dc =>
  zkk W _ _ ty (ρ.t 9) b (off + i * 4) (n + m - i) dc ⟨vb,voff,none⟩ m vc vs L.t24 hsz m (by simp only [Nat.min_def]; split <;> omega) hvl
   (fun j v hj=>by
    have hjl:j < m * 4:=by
     rcases Qn j vs.length with h | h
     ·omega
     ·rw [Qe h] at hj; cases hj
    rw [Addr.add_lit,hWc,hW1,World.cell?_setCells_out b _ _ _ _ (fun h _=>by
     have:=hap h
     show voff + j < off + (i + m) * 4 ∨ off + (i + m) * 4 + (cs.drop (i * 4)).length ≤ voff + j
     omega)]
    exact hvs j v hj)
   (fun j hj=>by rw [hWc,Nat.add_assoc]; exact hsp1 _ (by omega)) (fun j hj=>by rw [hWf,hW1,World.frozen?_setCells]; exact hfz _) h1v
 rw [← hW1] at hcp1
 clear hov
 go_enter L.fn,zg9 ρ
 go_wp2_with (simp only [hov'])
 go_region_law_o (refine step_copy_runI rfl _ _ (ρ.t 24) (ρ.t 24) rfl _ _ (by simp [Act.eval,Act.put]) (by simp [Act.eval,Act.put]) (hcp1 _ _ _) ?_)
 go_wp2_with (at_builtin; refine wpList_copy_runI _ rfl _ _ (ρ.t 24) (ρ.t 24) rfl _ _ rfl rfl (hcp2 _ (fun _=>rfl) (fun _=>rfl) _ _) ?_)
 go_ret
 first | exact ⟨rfl,rfl⟩ | exact ⟨rfl,by rw [hW1]⟩
theorem zmc (w:World)(t u ty e:TypeId)(ht:P.underlying t=some (.slice e))(hu:P.underlying u=some (.slice e))(hs:(P.info? e).map (·.size)=some 4)(b off n c:Nat)(a:Addr)(m vc:Nat)(vs:List Value)(hvl:vs.length=m * 4)(hroom:n + m ≤ c)
  (hvs:∀ j v,vs[j]?=some v→w.cell? (a.add j)=some v) (hsp:∀ j,j < m * 4→(w.cell? ⟨b,off + n * 4 + j,none⟩).isSome=true) (hfz:∀ q,w.frozen? ⟨b,q,none⟩=false) (h1v:∀ v ∈ vs,v.oneCell'=true) :
  (Builtin.append_ #[t,u] ty #[.slice (some ⟨b,off,none⟩) n c,.slice (some a) m vc]).run P w = .ok (.slice (some ⟨b,off,none⟩) (n + m) c) (w.setCells b (off + n * 4) vs):=by
 have hl:=run_loadCells_list (P:=P) w a vs hvs
 have hst:=run_storeCells_cells (P:=P) b (off + n * 4) vs 0 w (by rw [hvl]; simpa using hsp) (fun j _=>hfz _) h1v
 rw [hvl] at hl
 simp only [Nat.add_zero] at hst
 cases hq:P.info? e with
 | none=>simp [hq] at hs
 | some i =>
  have hi:i.size=4:=by simpa [hq] using hs
  have hadd:(⟨b,off,none⟩:Addr).add (n * 4)=⟨b,off + n * 4,none⟩:=Addr.add_lit ..
  simp [Builtin.append_,run_underlying ht,run_underlying hu,Go.sizeOf,typeInfo,hq,hi,Builtin.lenOf,Builtin.firstCells,hroom,hl,hadd,hst]
set_option maxHeartbeats 4000000 in
set_option maxRecDepth 100000 in
theorem zs5 (L:InsP P ρ fid nm ta)(b off n c vb voff m vc:Nat)(vs:List Value)(w:World)(hm:0 < m)(hroom:n + m ≤ c)(hn63:(n + m) * 56 ≤ 140737488355328)
  (hvl:vs.length=m * 4) (hsp:∀ j,j < m * 4→(w.cell? ⟨b,off + n * 4 + j,none⟩).isSome=true) (hfz:∀ q,w.frozen? ⟨b,q,none⟩=false)
  (hvs:∀ j v,vs[j]?=some v→w.cell? ⟨vb,voff + j,none⟩=some v) (h1v:∀ v ∈ vs,v.oneCell'=true) :
  Calls P fid #[.slice (some ⟨b,off,none⟩) n c,.int .i64 n,.slice (some ⟨vb,voff,none⟩) m vc] w fun e w' =>
   e = .returned (.slice (some ⟨b,off,none⟩) (n + m) c)∧w'=w.setCells b (off + n * 4) vs:=by
 have hrun:∀ ty,(Builtin.append_ #[(ρ.t 24),(ρ.t 24)] ty #[.slice (some ⟨b,off,none⟩) n c,.slice (some ⟨vb,voff,none⟩) m vc]).run P w=_:=fun ty =>
  zmc w (ρ.t 24) (ρ.t 24) ty (ρ.t 9) L.t24 L.t24 (zs4 L).2 b off n c ⟨vb,voff,none⟩ m vc vs hvl hroom (fun j v h=>by rw [Addr.add_lit]; exact hvs j v h) hsp hfz h1v
 have t0:=L.t0; have t3:=L.t3; have z3:=L.z3; have t4:=L.t4; have z4:=L.z4; have t24:=L.t24; have z24:=L.z24
 have z9:=(zs4 L).1
 have u0:=run_underlying L.t0; have u3:=run_underlying L.t3; have u4:=run_underlying L.t4; have u24:=run_underlying L.t24
 have mixed:=L.mixed
 have hz1:¬ ((m:Int)=0):=by omega
 go_enter L.fn,zg9 ρ
 go_wp2_with (at_builtin; refine Lib.wpList_append_run _ rfl _ _ _ _ rfl _ _ rfl rfl _ _ (hrun _) ?_)
 go_ret
 exact ⟨rfl,rfl⟩
set_option maxHeartbeats 4000000 in
set_option maxRecDepth 100000 in
theorem zs6 (L:InsP P ρ fid nm ta)(base:Option Addr)(n c vb voff m vc:Nat)(cs vs:List Value)(w:World)(hm:0 < m)(hnc:n ≤ c)(hroom:c < n + m)(hbig:(n + m) * 56 ≤ 140737488355328)
  (hcl:cs.length=n * 4) (hvl:vs.length=m * 4) (hnil:base=none→n=0) (hbase:n ≠ 0→∀ a,base=some a→a.spot=none)
  (hcs:∀ a,base=some a→∀ j v,cs[j]?=some v→w.cell? (a.add j)=some v)
  (hvs:∀ j v,vs[j]?=some v→w.cell? ⟨vb,voff + j,none⟩=some v) :
  Calls P fid #[.slice base n c,.int .i64 n,.slice (some ⟨vb,voff,none⟩) m vc] w fun e w' =>
   e = .returned (.slice (some ⟨w.heap.size,0,none⟩) (n + m) (grownCap w (n + m) c (ρ.t 9))) ∧
   w'=w.drew.alloc (.cells (cs++vs++(Builtin.zeroCells zpr.cells (grownCap w (n + m) c (ρ.t 9) - (n + m))).toList).toArray (ρ.t 9)):=by
 obtain ⟨i0,hi0,hz0,hzs,hzb⟩:=info_parts L.i9
 have hrun:∀ ty,(Builtin.append_ #[(ρ.t 24),(ρ.t 24)] ty #[.slice base n c,.slice (some ⟨vb,voff,none⟩) m vc]).run P w=_:=fun ty =>
  zd5 (ty:=ty) L.t24 (by unfold zcm; rw [L.t24]) hi0 hz0 base (some ⟨vb,voff,none⟩) n c m vc cs vs
   (fun w' hw=>by
    rw [hzs]
    cases base with
    | none =>
     have h0:=hnil rfl
     subst h0
     rw [List.length_eq_zero_iff.1 (by omega:cs.length=0)]
     simp [Builtin.firstCells]
    | some a =>
     show (loadCells a (n * 4)).run P w'=_
     rw [← hcl]
     refine run_loadCells_list w' a cs (fun j v hj=>?_)
     have h1:=hcs a rfl j v hj
     have hn0:n ≠ 0:=by
      rintro rfl
      rw [List.length_eq_zero_iff.1 (by omega:cs.length=0)] at hj
      simp at hj
     have hsp:=hbase hn0 a rfl
     obtain ⟨ab,ao,asp⟩:=a
     simp only at hsp
     subst hsp
     rw [Addr.add_lit] at h1 ⊢
     rw [hw]; exact h1)
   (fun w' hw=>by
    rw [hzs]
    show (loadCells ⟨vb,voff,none⟩ (m * 4)).run P w'=_
    rw [← hvl]
    exact run_loadCells_list w' _ vs (fun j v hj=>by rw [Addr.add_lit,hw]; exact hvs j v hj))
   hroom (by omega) (by rw [hzb]; exact growslice_fits hroom hbig)
 have t0:=L.t0; have t3:=L.t3; have z3:=L.z3; have t4:=L.t4; have z4:=L.z4; have t24:=L.t24; have z24:=L.z24
 have z9:=(zs4 L).1
 have u0:=run_underlying L.t0; have u3:=run_underlying L.t3; have u4:=run_underlying L.t4; have u24:=run_underlying L.t24
 have mixed:=L.mixed
 have hz1:¬ ((m:Int)=0):=by omega
 go_enter L.fn,zg9 ρ
 cases base with
 | none =>
  have h0:=hnil rfl
  subst h0
  go_wp2_with (at_builtin; refine Lib.wpList_append_run _ rfl _ _ _ _ rfl _ _ rfl rfl _ _ (hrun _) ?_)
  go_ret
  exact ⟨rfl,rfl⟩
 | some a =>
  obtain ⟨ab,ao,asp⟩:=a
  go_wp2_with (at_builtin; refine Lib.wpList_append_run _ rfl _ _ _ _ rfl _ _ rfl rfl _ _ (hrun _) ?_)
  all_goals (go_ret; exact ⟨rfl,rfl⟩)
set_option maxHeartbeats 4000000 in
set_option maxRecDepth 100000 in
theorem z4c (L:InsP P ρ fid nm ta)(b off n c i vb voff m vc:Nat)(cs vs:List Value)(w:World)(hi:i < n)(hm:0 < m)(hnc:n ≤ c)(hroom:c < n + m)(hbig:(n + m) * 56 ≤ 140737488355328)
  (hcl:cs.length=n * 4) (hvl:vs.length=m * 4)
  (hcs:∀ j v,cs[j]?=some v→w.cell? ⟨b,off + j,none⟩=some v)
  (hvs:∀ j v,vs[j]?=some v→w.cell? ⟨vb,voff + j,none⟩=some v) (h1c:∀ v ∈ cs,v.oneCell'=true) (h1v:∀ v ∈ vs,v.oneCell'=true) :
  ∃ ROW:Array Value,ROW.size=(grownCap w (n + m) c (ρ.t 9)) * 4∧(∀ (j:Nat) (v:Value),(cs.take (i * 4))[j]?=some v→ROW[j]?=some v) ∧
  Calls P fid #[.slice (some ⟨b,off,none⟩) n c,.int .i64 i,.slice (some ⟨vb,voff,none⟩) m vc] w fun e w' =>
   e = .returned (.slice (some ⟨w.heap.size,0,none⟩) (n + m) (grownCap w (n + m) c (ρ.t 9))) ∧
   w'=(((w.alloc (.cells ROW (ρ.t 9))).drew.setCells w.heap.size (i * 4) vs).drew).setCells w.heap.size ((i + m) * 4) (cs.drop (i * 4)):=by
 have t0:=L.t0; have t3:=L.t3; have z3:=L.z3; have t4:=L.t4; have z4:=L.z4; have t24:=L.t24; have z24:=L.z24
 have z9:=(zs4 L).1; have hsz:=(zs4 L).2
 have u0:=run_underlying L.t0; have u3:=run_underlying L.t3; have u4:=run_underlying L.t4; have u24:=run_underlying L.t24
 have mixed:=L.mixed
 obtain ⟨i0,hi0,hz0,hzs,hzb⟩:=info_parts L.i9
 have hz1:¬ ((m:Int)=0):=by omega
 have hz2:¬ ((i:Int)=(n:Int)):=by omega
 have hz3:(c:Int) < (n:Int) + (m:Int):=by omega
 have hbw:b < w.heap.size:=block_lt_of_cell (hcs 0 _ (Qd (by omega)))
 have hvw:vb < w.heap.size:=block_lt_of_cell (hvs 0 _ (Qd (by omega)))
 have hkk:(n:Int) + (m:Int) - (i:Int)=((n + m - i:Nat):Int):=by omega
 have hik:i + (n + m - i)=n + m:=by omega
 have htl:(cs.take (i * 4)).length=i * 4:=by rw [List.length_take]; omega
 have hold:(Builtin.firstCells i0.size i (.slice (some ⟨b,off,none⟩) i c)).run P w.drew = .ok (cs.take (i * 4)).toArray w.drew:=by
  rw [hzs]
  show (loadCells ⟨b,off,none⟩ (i * 4)).run P w.drew=_
  have:=run_loadCells_list (P:=P) w.drew ⟨b,off,none⟩ (cs.take (i * 4)) (fun j v hj=>by
   rw [Addr.add_lit]
   rw [List.getElem?_take] at hj
   split at hj
   ·exact hcs j v hj
   ·cases hj)
  rwa [htl] at this
 have hrz:∀ ty,(Builtin.append_ #[(ρ.t 24),(ρ.t 3)] ty #[.slice (some ⟨b,off,none⟩) i c,.int .i64 ((n:Int) + (m:Int) - (i:Int))]).run P w =
   .ok (.slice (some ⟨w.heap.size,0,none⟩) (n + m) (grownCap w (n + m) c (ρ.t 9))) (w.drew.alloc (.cells ((cs.take (i * 4)).toArray++Builtin.zeroCells zpr.cells (n + m - i)++Builtin.zeroCells zpr.cells (grownCap w (n + m) c (ρ.t 9) - (n + m))) (ρ.t 9))):=fun ty=>by
  have h:=Lib.run_append_grow_zeros w (ρ.t 24) (ρ.t 3) ty (ρ.t 9) i0 _ .i64 .i64 L.t24 L.t3 hi0 hz0 (some ⟨b,off,none⟩) i c (cs.take (i * 4)) hold (n + m - i) (by omega) (by omega) (by omega) (by omega) (by rw [hzb]; omega) (by rw [hzb,hik]; exact growslice_fits hroom hbig)
  rw [hik] at h
  rw [hkk]
  exact h
 have hGn:n + m ≤ grownCap w (n + m) c (ρ.t 9):=grownCap_ge w _ _ _
 obtain ⟨G,hG⟩:∃ G,G=grownCap w (n + m) c (ρ.t 9):=⟨_,rfl⟩
 obtain ⟨ROW,hROW⟩:∃ ROW:Array Value,ROW=(cs.take (i * 4)).toArray++Builtin.zeroCells zpr.cells (n + m - i)++Builtin.zeroCells zpr.cells (G - (n + m)):=⟨_,rfl⟩
 rw [← hG] at hrz hGn ⊢
 rw [← hROW] at hrz
 have hRs:ROW.size=G * 4:=by
  rw [hROW]
  simp only [Array.size_append,List.size_toArray,htl,size_zeroCells]
  show i * 4 + (n + m - i) * 4 + (G - (n + m)) * 4=G * 4
  omega
 have hRl:(n + m) * 4 ≤ ROW.size:=by omega
 refine ⟨ROW,hRs,fun j v hj=>?_, ?_⟩
 ·have hj':j < (cs.take (i * 4)).length:=by
   rcases Qn j (cs.take (i * 4)).length with h | h
   ·exact h
   ·rw [Qe h] at hj; cases hj
  rw [hROW,Array.append_assoc,Array.getElem?_append_left (by simpa using hj')]
  simpa using hj
 obtain ⟨W1,hW1⟩:∃ W1,W1=w.drew.alloc (.cells ROW (ρ.t 9)):=⟨_,rfl⟩
 rw [← hW1] at hrz
 have hN:∀ j,j < (n + m) * 4→(W1.cell? ⟨w.heap.size,j,none⟩).isSome=true:=fun j hj=>by
  rw [hW1,World.cell?_alloc_at (w:=w.drew) ROW _ w.heap.size j rfl,Array.getElem?_eq_getElem (by omega)]; rfl
 have hNf:∀ j,W1.frozen? ⟨w.heap.size,j,none⟩=false:=fun j=>by rw [hW1]; exact World.frozen?_alloc_at (w:=w.drew) ROW _ w.heap.size j rfl
 have hOb:∀ j v,w.cell? ⟨b,j,none⟩=some v→W1.cell? ⟨b,j,none⟩=some v:=fun j v h=>by rw [hW1,World.cell?_alloc_past (w:=w.drew) _ b j hbw]; exact h
 have hOv:∀ j v,w.cell? ⟨vb,j,none⟩=some v→W1.cell? ⟨vb,j,none⟩=some v:=fun j v h=>by rw [hW1,World.cell?_alloc_past (w:=w.drew) _ vb j hvw]; exact h
 have hcpA:∀ (W:World),(∀ x,W.cell? x=W1.cell? x)→(∀ x,W.frozen? x=W1.frozen? x)→∀ ty dc,(Builtin.copy_ #[(ρ.t 24),(ρ.t 24)] ty #[.slice (some ⟨w.heap.size,i * 4,none⟩) (n + m - i) dc,.slice (some ⟨vb,voff,none⟩) m vc]).run P W = .ok (goInt (m:Int)) (W.setCells w.heap.size (i * 4) vs):=fun W hWc hWf ty dc =>
  zkk W _ _ ty (ρ.t 9) w.heap.size (i * 4) (n + m - i) dc ⟨vb,voff,none⟩ m vc vs L.t24 hsz m (by simp only [Nat.min_def]; split <;> omega) hvl
   (fun j v hj=>by rw [Addr.add_lit,hWc]; exact hOv _ v (hvs j v hj))
   (fun j hj=>by rw [hWc]; exact hN _ (by omega)) (fun j hj=>by rw [hWf]; exact hNf _) h1v
 have hG63:G ≤ 9223372036854775807:=by
  have:=grownCap_le_maxLen w (n + m) c (ρ.t 9) (by unfold maxLen; omega)
  rw [← hG] at this
  unfold maxLen at this
  omega
 have hGi:¬ (G=i):=by omega
 have hGim:¬ (G=i + m):=by omega
 have hci:¬ (c=i):=by omega
 have hbN:b ≠ w.heap.size:=by omega
 have hdl:(cs.drop (i * 4)).length=(n - i) * 4:=by rw [List.length_drop,hcl]; omega
 have hcpB:∀ (W:World),(∀ x,W.cell? x=(W1.setCells w.heap.size (i * 4) vs).cell? x)→(∀ x,W.frozen? x=(W1.setCells w.heap.size (i * 4) vs).frozen? x)→∀ ty dc sc,(Builtin.copy_ #[(ρ.t 24),(ρ.t 24)] ty #[.slice (some ⟨w.heap.size,(i + m) * 4,none⟩) (n + m - (i + m)) dc,.slice (some ⟨b,off + i * 4,none⟩) (n - i) sc]).run P W = .ok (goInt ((n - i:Nat):Int)) (W.setCells w.heap.size ((i + m) * 4) (cs.drop (i * 4))):=fun W hWc hWf ty dc sc =>
  zkk W _ _ ty (ρ.t 9) w.heap.size ((i + m) * 4) (n + m - (i + m)) dc ⟨b,off + i * 4,none⟩ (n - i) sc (cs.drop (i * 4)) L.t24 hsz (n - i) (by simp only [Nat.min_def]; split <;> omega) hdl
   (fun j v hj=>by
    rw [Addr.add_lit,hWc,World.cell?_setCells_out _ _ _ _ _ (fun h _=>absurd h hbN),Nat.add_assoc]
    exact hOb _ v (hcs (i * 4 + j) v (by rwa [List.getElem?_drop] at hj)))
   (fun j hj=>by rw [hWc]; exact isSome_setCells _ _ _ _ (fun t ht=>hN _ (by omega)) _ (hN _ (by omega)))
   (fun j hj=>by rw [hWf,World.frozen?_setCells]; exact hNf _) (fun v hv=>h1c v (List.mem_of_mem_drop hv))
 subst hW1
 have hE1:∀ x,((w.alloc (.cells ROW (ρ.t 9))).drew).cell? x=(w.drew.alloc (.cells ROW (ρ.t 9))).cell? x:=fun x=>rfl
 have hE2:∀ x,((w.alloc (.cells ROW (ρ.t 9))).drew).frozen? x=(w.drew.alloc (.cells ROW (ρ.t 9))).frozen? x:=fun x=>rfl
 have hF1:∀ x,(((w.alloc (.cells ROW (ρ.t 9))).drew.setCells w.heap.size (i * 4) vs).drew).cell? x=((w.drew.alloc (.cells ROW (ρ.t 9))).setCells w.heap.size (i * 4) vs).cell? x:=fun x=>rfl
 have hF2:∀ x,(((w.alloc (.cells ROW (ρ.t 9))).drew.setCells w.heap.size (i * 4) vs).drew).frozen? x=((w.drew.alloc (.cells ROW (ρ.t 9))).setCells w.heap.size (i * 4) vs).frozen? x:=fun x=>rfl
 have hw1:IntKind.i64.wrap ((i:Int) + (m:Int))=(i:Int) + (m:Int):=by rw [IntKind.wrap_i64]; omega
 have hb1:(0:Int) ≤ (i:Int) + (m:Int):=by omega
 have hin:i ≤ n:=by omega
 have htn:((i:Int) + (m:Int)).toNat=i + m:=by omega
 have hb3:(i:Int) ≤ (n:Int):=by omega
 clear hkk hik hold hROW hG hRl hRs
 go_enter L.fn,zg9 ρ
 go_wp2_with (first
  | (at_builtin; refine Lib.wpList_append_run _ rfl _ _ _ _ rfl _ _ rfl rfl _ _ (hrz _) ?_)
  | (at_builtin; refine wpList_copy_runI _ rfl _ _ (ρ.t 24) (ρ.t 24) rfl _ _ rfl rfl (hcpA _ hE1 hE2 _ _) ?_)
  | (at_builtin; refine wpList_copy_runI _ rfl _ _ (ρ.t 24) (ρ.t 24) rfl _ _ rfl rfl (hcpB _ (fun _=>rfl) (fun _=>rfl) _ _ _) ?_))
 go_region_law_o (refine step_copy_runI rfl _ _ (ρ.t 24) (ρ.t 24) rfl (.slice (some ⟨w.heap.size,(i + m) * 4,none⟩) (n + m - (i + m)) (G - (i + m))) (.slice (some ⟨b,off + i * 4,none⟩) (n - i) (c - i)) (by simp [Act.eval,Act.put]) (by simp [Act.eval,Act.put]) (hcpB _ hF1 hF2 (ρ.t 3) (G - (i + m)) (c - i)) ?_)
 go_wp2
 go_ret
 exact ⟨rfl,rfl⟩
end
open Go
open Go.RowKit (Below)
open Go.Shelf Go.Lib Go.Proofs
def zea (ds:List (List D))(i:Nat)(row:List D):List (List D):=ds.take i++row :: ds.drop i
def zh1:List V→List (Option Obj)→Option (V × List (Option Obj))
 | [.arr 0 ver 0 len,.d (.i .i64 i),.d (.l 4 [row])],[some (.arr ver' 4 xs)] =>
  if ver=ver'∧len=xs.length∧0 ≤ i∧i ≤ len∧(len + 1) * 56 ≤ 140737488355328 then match zhp xs with
   | some ds=>some (.d (.l 4 (zea ds i.toNat row)),[some (.arr (ver + 1) 4 [])])
   | none=>none
  else none
 | _,_=>none
section
variable {P:Program} {tab:Tab} {g:Gh} {obj:Nat→Option Obj} {w:World}
theorem zli {b sz:Nat}:∀ (xs:List (List V)) (ds:List (List D)) (lo:Nat),
  (∀ i r q x,xs[i]?=some r→r[q]?=some x→∃ u,w.cell? (zag b (lo + i * sz + q))=some u∧zai tab g obj w x u∧u.oneCell'=true)→(∀ r ∈ xs,r.length=sz)→zhp xs=some ds→∃ us,zaq tab g.im w ds.flatten us∧zbu w b lo us
 | [],ds,lo,h,hs,hd=>by
  simp only [zhp,Qa] at hd
  subst hd
  exact ⟨[],by simp [zaq],zbu.nil' _ _ _⟩
 | r :: rs,ds,lo,h,hs,hd=>by
  simp only [zhp] at hd
  split at hd
  ·rename_i d ds' h1 h2
   simp only [Qa] at hd
   subst hd
   have hr:r.length=sz:=hs r (by simp)
   obtain ⟨us,k1,k2⟩:=zm7 h (idx:=0) (row:=r) rfl
   rw [Nat.zero_mul,Nat.add_zero] at k2
   obtain ⟨us2,m1,m2⟩:=zli rs ds' (lo + sz) (fun i r' q x h3 h4=>by
    have:=h (i + 1) r' q x (by simpa using h3) h4
    rwa [show lo + (i + 1) * sz + q=lo + sz + i * sz + q by rw [Nat.add_mul]; omega] at this) (fun r hr=>hs r (by simp [hr])) h2
   have hd:=zcj h1 k1.toV
   have hl:us.length=sz:=by rw [hd.length,zfk h1,hr]
   refine ⟨us++us2,by rw [List.flatten_cons]; exact hd.append m1,fun q u hq=>?_⟩
   by_cases hlt:q < us.length
   ·rw [List.getElem?_append_left hlt] at hq
    exact k2 q u hq
   ·rw [List.getElem?_append_right (by omega)] at hq
    have:=m2 (q - us.length) u hq
    rwa [show lo + sz + (q - us.length)=lo + q by omega] at this
  ·cases hd
theorem zgg {α:Type}{c:Nat}:∀ (xs:List (List α)) (i:Nat),(∀ r ∈ xs,r.length=c)→(xs.take i).flatten=xs.flatten.take (i * c)
 | [],i,_=>by simp
 | x :: xs,0,h=>by simp
 | x :: xs,i + 1,h=>by
  have hx:x.length=c:=h x (by simp)
  have he:(i + 1) * c=x.length + i * c:=by rw [hx,Nat.add_mul]; omega
  rw [List.take_succ_cons,List.flatten_cons,List.flatten_cons,zgg xs i (fun r hr=>h r (by simp [hr])),he,List.take_length_add_append]
theorem zgh {α:Type}{c:Nat}:∀ (xs:List (List α)) (i:Nat),(∀ r ∈ xs,r.length=c)→(xs.drop i).flatten=xs.flatten.drop (i * c)
 | [],i,_=>by simp
 | x :: xs,0,h=>by simp
 | x :: xs,i + 1,h=>by
  have hx:x.length=c:=h x (by simp)
  have he:(i + 1) * c=x.length + i * c:=by rw [hx,Nat.add_mul]; omega
  rw [List.drop_succ_cons,List.flatten_cons,zgh xs i (fun r hr=>h r (by simp [hr])),he,List.drop_length_add_append]
theorem zul (hH:HRel tab g obj w){id ver sz:Nat}{xs:List (List V)}(ho:obj id=some (.arr ver sz xs)){w':World}
  (os:w'.os=w.os) (tape:w'.tape=w.tape) (output:w'.output=w.output) (size:w.heap.size ≤ w'.heap.size)
  (blk:∀ b,b < w.heap.size→zbn (zbd g obj id b) w.heap[b]? w'.heap[b]?)
  {rb ro c:Nat} {us:List Value} {zs:List (List D)} (hz:zaq tab g.im w zs.flatten us) (hs:∀ r ∈ zs,r.length=sz) (hold:zbu w' rb ro us)
  (hwh:(∀ q,q < us.length→zbd g obj id rb (ro + q)) ∨ (rb=w.heap.size∧w.heap.size < w'.heap.size)) (hc:zs.length ≤ c) :
  ∃ g',Post tab g obj w g' (zb2 obj id (some (.arr (ver + 1) sz []))) w'∧za9 tab g'.im w' (.l sz zs) (.slice (some (zag rb ro)) zs.length c):=by
 let im':Nat→Nat→Prop:=fun b q=>g.im b q ∨ (b=rb∧ro ≤ q∧q < ro + us.length)
 have hno:∀ b q,¬ zbd ⟨zdc g.at_ id ⟨0,0,0⟩,im'⟩ (zb2 obj id (some (.arr (ver + 1) sz []))) id b q:=fun b q h=>by
  unfold zbd at h
  rw [zao] at h
  simp only [zav] at h
  omega
 obtain ⟨k1,k2,k3⟩:=zfw (w':=w') hH id (.arr (ver + 1) sz []) ⟨0,0,0⟩ im' os tape output size blk (fun _ _ h=>.inl h)
  (fun b q h=>by
   rcases h with h | ⟨rfl,h2,h3⟩
   ·exact .inl h
   ·rcases hwh with hw | ⟨hw,hw2⟩
    ·have:=hw (q - ro) (by omega)
     rw [show ro + (q - ro)=q by omega] at this
     exact .inr (.inl this)
    ·exact .inr (.inr ⟨by omega,by omega⟩))
  (fun b q h=>absurd h (hno b q))
  (fun b q h=>absurd h (hno b q))
  (by
   intro j
   by_cases e:j=id
   ·subst e; rw [ho]
    exact ⟨_,_,zao _ _ _,Nat.le_succ _,fun e=>by omega⟩
   ·have:=zia.refl g obj j
    rw [zcq _ _ e,show (⟨zdc g.at_ id ⟨0,0,0⟩,im'⟩:Gh).at_ j=g.at_ j from zd4 _ _ e]
    exact this)
  (fun _=>⟨by simp,by simp,fun q hq=>by simp at hq,fun i r q x h=>by simp at h⟩)
 refine ⟨_,⟨k1,k2,k3⟩, ?_⟩
 simp only [za9]
 refine ⟨_,_,rfl,hc,hs,.inr ⟨rb,ro,rfl,zbm.mk (za1.mk (us:=us) ?_ hold ?_)⟩⟩
 ·exact zaq.mono (w:=w) (fun _ _ h=>.inl h) (fun b o h=>(blk b (hH.imOld b o h)).cell fun h2=>hH.imm id b o h2 h) _ _ hz
 ·intro q hq
  rw [← hz.length] at hq
  exact .inr ⟨rfl,by omega,by omega⟩
theorem zum {tS tR e:TypeId}(ht:P.underlying tS=some (.slice e)){z:Nat}(hz:∀ w,(Go.sizeOf e).run P w = .ok z w)(vb voff b off la ca lb cb:Nat){u u':Value}(hv:w.cell? (zag vb voff)=some u){o':Nat}(hb:w.cell? (zag b o')=some u')
  (hf:∀ q,w.frozen? (zag b q)=false) (hap:vb=b→voff + la * z ≤ off ∨ off + lb * z ≤ voff) :
  (Extern.SlicesOverlaps.overlaps #[tS,tS] #[tR] #[.slice (some ⟨vb,voff,none⟩) la ca,.slice (some ⟨b,off,none⟩) lb cb]).run P w = .ok (.bool false) w:=by
 change Sem.run P (α:=Value) (do
  let some t := (#[tS, tS] : Array TypeId)[0]? | stuck "slices.overlaps: no parameter types"
  let .slice elem ← underlying t | stuck "slices.overlaps: slice type expected"
  let size ← Go.sizeOf elem
  match (some (⟨vb,voff,none⟩:Addr)),(some (⟨b,off,none⟩:Addr)) with
  | some a,some b =>
   if la=0 ∨ lb=0 ∨ size=0 then pure (Value.bool false)
   else if a.block != b.block && (← frozen a) && (← frozen b) then unsupported .addressObserved
   else do
    if a.block != b.block then do
     noView a; noView b
     if ← mayBeOne a b then return Value.bool ((← choose (.extern "sameAddr.stringBytes" 2)) == 1)
    pure (Value.bool (a.block == b.block && a.off < b.off + lb * size && b.off < a.off + la * size))
  | _,_=>pure (Value.bool false)) w=_
 have shp:∀ (b o:Nat) (u:Value),w.cell? (zag b o)=some u→∃ t k,w.shape? b=some (t,k + 1):=fun b o u h=>by
  unfold World.cell? at h
  simp only [zag] at h
  split at h
  ·rename_i cc t fr hh
   have hk:o < cc.size:=by
    rcases Qn o cc.size with h1 | h1
    ·exact h1
    ·simp [Array.getElem?_eq_none h1] at h
   refine ⟨t,cc.size - 1, ?_⟩
   unfold World.shape?
   rw [hh]
   simp; omega
  ·cases h
 obtain ⟨tA,kA,hsa⟩:=shp _ _ _ hv
 obtain ⟨tB,kB,hsb⟩:=shp _ _ _ hb
 have hfb:∀ q,w.frozen? { block:=b,off:=q }=false:=fun q=>hf q
 by_cases h0:la=0 ∨ lb=0 ∨ z=0
 ·simp [run_underlying ht,hz,h0]
 ·by_cases hne:vb=b
  ·have:=hap hne
   subst hne
   simp [run_underlying ht,hz,h0]
   omega
  ·cases hfa:w.frozen? { block:=vb,off:=voff } <;> cases hfe:w.frozen? { block:=vb,off:=kA + 1 } <;>
    simp [run_underlying ht,hz,h0,hne,frozen,noView,viewAt,mayBeOne,stringish,shape,Sem.run,hsa,hsb,hfa,hfe,hfb]
theorem zn3 {o o':Obj}:zax [some o']=zb2 (zax [some o]) 0 (some o'):=by
 funext i
 cases i with
 | zero=>rfl
 | succ i=>simp [zax,zb2]
theorem zs7 {ds:List (List D)}{i:Nat}{row:List D}(h:∀ r ∈ ds,r.length=4):(zea ds i row).flatten=ds.flatten.take (i * 4)++(row++ds.flatten.drop (i * 4)):=by
 unfold zea
 rw [List.flatten_append,List.flatten_cons,zgg ds i h,zgh ds i h]
theorem zun {ds:List (List D)}{i:Nat}{row:List D}(h:i ≤ ds.length):(zea ds i row).length=ds.length + 1:=by
 unfold zea
 simp; omega
variable {ρ:Ren} {fid:FuncId} {nm:String} {ta:Array TypeId}
theorem zz8 (L:InsP P ρ fid nm ta):zv5 P tab fid zh1:=by
 intro args hp r hp' h g w vs hH hvs
 unfold zh1 at h
 split at h
 ·rename_i ver len i row ver' xs
  split at h
  ·rename_i hcond
   obtain ⟨hver,hlen,hi0,hile,hbig⟩:=hcond
   subst hver
   split at h
   ·rename_i ds hds
    simp only [Qa,Qj] at h
    obtain ⟨rfl,rfl⟩:=h
    obtain ⟨i,rfl⟩:∃ k:Nat,i=k:=⟨i.toNat,by omega⟩
    rw [Qk]
    have hile:i ≤ len:=by omega
    match vs,hvs with
    | [v1,v2,v3],hvs =>
     simp only [zah] at hvs
     obtain ⟨hv1,hv2,hv3,_⟩:=hvs
     have ho:zax [some (Obj.arr ver 4 xs)] 0=some (.arr ver 4 xs):=rfl
     have hv1':=hv1
     simp only [zai] at hv1
     obtain ⟨_,ver1,sz1,xs1,h1,h2,h3⟩:=hv1
     rw [ho] at h1
     simp only [Qa,Obj.arr.injEq] at h1
     obtain ⟨rfl,rfl,rfl⟩:=h1
     obtain ⟨_,A,c,rfl,hA⟩:=h3 rfl
     simp only [zai,za9] at hv2
     subst hv2
     simp only [zai,za9] at hv3
     obtain ⟨A3,c3,rfl,hc3,hrow,hA3⟩:=hv3
     have hrow4:row.length=4:=hrow row (by simp)
     rcases hA3 with hA3 | ⟨vb,voff,rfl,hA3⟩
     ·cases hA3
     have hcs3:=hA3.cells
     rw [List.flatten_singleton] at hcs3
     obtain ⟨vs,e1,e2,e3⟩:=hcs3.get
     have hvim:∀ q,q < 4→g.im vb (voff + q):=fun q hq=>by
      have:=za1.imm hcs3 q (by omega)
      exact this
     obtain ⟨k1,k2,k4,k5⟩:=hH.ob 0 _ ho
     obtain ⟨cs,m1,m2⟩:=zli xs ds _ k5 k1 hds
     obtain ⟨l1,l2⟩:=zf5 hds k1
     have hcl:cs.length=len * 4:=by rw [m1.length,zbf l2,l1,hlen]
     have hvl:vs.length=1 * 4:=by rw [e2,hrow4]
     have hown:∀ q,q < (g.at_ 0).cnt→zbd g (zax [some (Obj.arr ver 4 xs)]) 0 (g.at_ 0).blk ((g.at_ 0).lo + q):=fun q hq=>by
      unfold zbd; rw [ho]; exact ⟨rfl,by omega,by omega⟩
     have hres:∀ us,us=cs.take (i * 4)++(vs++cs.drop (i * 4))→zaq tab g.im w (zea ds i row).flatten us:=fun us e=>by
      rw [e,zs7 l2]
      exact (m1.take _).append (e1.append (m1.drop _))
     have hz4:∀ r ∈ zea ds i row,r.length=4:=fun r hr=>by
      unfold zea at hr
      rcases List.mem_append.1 hr with hr | hr
      ·exact l2 r (List.mem_of_mem_take hr)
      ·rcases List.mem_cons.1 hr with rfl | hr
       ·exact hrow4
       ·exact l2 r (List.mem_of_mem_drop hr)
     have hrl:(zea ds i row).length=len + 1:=by rw [zun (by omega),l1,hlen]
     have fin:∀ (w':World) (rb ro cc:Nat),w'.os=w.os→w'.tape=w.tape→w'.output=w.output→w.heap.size ≤ w'.heap.size →
       (∀ b,b < w.heap.size→zbn (zbd g (zax [some (Obj.arr ver 4 xs)]) 0 b) w.heap[b]? w'.heap[b]?) →
       zbu w' rb ro (cs.take (i * 4)++(vs++cs.drop (i * 4))) →
       ((∀ q,q < (len + 1) * 4→zbd g (zax [some (Obj.arr ver 4 xs)]) 0 rb (ro + q)) ∨ (rb=w.heap.size∧w.heap.size < w'.heap.size))→len + 1 ≤ cc →
       ∃ v g',Ending.returned (.slice (some (zag rb ro)) (len + 1) cc) = .returned v∧HRel tab g' (zax [some (Obj.arr (ver + 1) 4 [])]) w'∧Evo g (zax [some (Obj.arr ver 4 xs)]) w g' (zax [some (Obj.arr (ver + 1) 4 [])]) w' ∧
        zai tab g' (zax [some (Obj.arr (ver + 1) 4 [])]) w' (.d (.l 4 (zea ds i row))) v:=by
      intro w' rb ro cc f1 f2 f3 f4 f5 f6 f7 f8
      have hul:(cs.take (i * 4)++(vs++cs.drop (i * 4))).length=(len + 1) * 4:=by
       simp only [Qg,List.length_take,List.length_drop]; omega
      obtain ⟨g',p1,p2⟩:=zul hH ho f1 f2 f3 f4 f5 (hres _ rfl) hz4 f6 (f7.imp (fun h q hq=>h q (by omega)) id) (by rw [hrl]; exact f8)
      rw [← zn3] at p1
      refine ⟨_,g',rfl,p1.heap,p1.evo, ?_⟩
      simp only [zai]
      rw [hrl] at p2
      exact p2
     have hvs3:∀ j v,vs[j]?=some v→w.cell? ⟨vb,voff + j,none⟩=some v:=fun j v hj=>e3 j v hj
     have hu3:w.cell? (zag vb voff)=some vs[0]:=by
      have:=e3 0 vs[0] (Qd (by omega))
      simpa using this
     by_cases hroom:len + 1 ≤ c
     ·rcases hA with hA | ⟨rfl,hA⟩
      ·omega
      rw [Nat.zero_mul,Nat.add_zero] at *
      rw [Nat.zero_add] at hA
      have hfz:∀ q,w.frozen? ⟨(g.at_ 0).blk,q,none⟩=false:=hH.frz 0 _ _ (hown 0 (by omega)) (fun kvs=>by rw [ho]; simp)
      have hsp:∀ j,j < (len + 1) * 4→(w.cell? ⟨(g.at_ 0).blk,(g.at_ 0).lo + j,none⟩).isSome=true:=fun j hj=>k4 j (by omega)
      by_cases hend:i=len
      ·subst hend
       refine (zs5 L _ _ i c vb voff 1 c3 vs w (by omega) hroom (by omega) hvl (fun j hj=>by rw [Nat.add_assoc]; exact hsp _ (by omega)) hfz hvs3 e1.ones).mono fun e w' hw=>?_
       obtain ⟨rfl,rfl⟩:=hw
       obtain ⟨q1,q2,q3,q4⟩:=zb7 (g.at_ 0).blk vs ((g.at_ 0).lo + i * 4) w
       refine fin _ _ _ _ q1 q2 q3 (by omega) (fun b hb=>(za7 _ b vs _ w).mono fun q ⟨n1,n2,n3⟩=>?_) (fun q u hq=>?_) (.inl fun q hq=>hown q (by omega)) hroom
       ·subst n1
        have:=hown (q - (g.at_ 0).lo) (by omega)
        rwa [show (g.at_ 0).lo + (q - (g.at_ 0).lo)=q by omega] at this
       ·rw [List.take_of_length_le (by omega),List.drop_of_length_le (by omega),List.append_nil] at hq
        by_cases hlt:q < cs.length
        ·rw [List.getElem?_append_left hlt] at hq
         rw [World.cell?_setCells_out _ _ _ _ _ (fun _ _=>by show (g.at_ 0).lo + q < (g.at_ 0).lo + i * 4 ∨ _; omega)]
         exact m2 q u hq
        ·rw [List.getElem?_append_right (by omega)] at hq
         have:=zbt (b:=(g.at_ 0).blk) (o:=(g.at_ 0).lo + i * 4) (vs:=vs) (w:=w) (fun j hj=>by show (w.cell? ⟨_,_,none⟩).isSome=true; rw [Nat.add_assoc]; exact hsp _ (by omega)) (q - cs.length) u hq
         rwa [show (g.at_ 0).lo + i * 4 + (q - cs.length)=(g.at_ 0).lo + q by omega] at this
      ·have hap:vb=(g.at_ 0).blk→voff + 1 * 4 ≤ (g.at_ 0).lo ∨ (g.at_ 0).lo + (len + 1) * 4 ≤ voff:=fun e=>by
        rcases Qn (g.at_ 0).lo (voff + 4) with h1 | h1
        ·rcases Qn voff ((g.at_ 0).lo + (len + 1) * 4) with h2 | h2
         ·exfalso
          rcases Qn voff (g.at_ 0).lo with h3 | h3
          ·have a1:=hown 0 (by omega)
           have a2:=hvim ((g.at_ 0).lo - voff) (by omega)
           rw [show voff + ((g.at_ 0).lo - voff)=(g.at_ 0).lo + 0 by omega,e] at a2
           exact hH.imm 0 _ _ a1 a2
          ·have a1:=hown (voff - (g.at_ 0).lo) (by omega)
           have a2:=hvim 0 (by omega)
           rw [show voff + 0=(g.at_ 0).lo + (voff - (g.at_ 0).lo) by omega,e] at a2
           exact hH.imm 0 _ _ a1 a2
         ·exact .inr h2
        ·exact .inl (by omega)
       have hsome:∃ u,w.cell? (zag (g.at_ 0).blk ((g.at_ 0).lo + 0))=some u:=Option.isSome_iff_exists.1 (hsp 0 (by omega))
       obtain ⟨u0,hu0⟩:=hsome
       refine (zz7 L _ _ len c i vb voff 1 c3 cs vs w (by omega) (by omega) hroom (by omega) hap hcl hvl (fun j v hj=>m2 j v hj) hsp hfz hvs3 m1.ones e1.ones
        (fun cb=>zum L.t24 (zs4 L).1 vb voff _ _ 1 c3 _ cb hu3 hu0 hfz (fun e=>by have:=hap e; omega))).mono fun e w' hw=>?_
       obtain ⟨rfl,rfl⟩:=hw
       obtain ⟨q1,q2,q3,q4⟩:=zb7 (g.at_ 0).blk (cs.drop (i * 4)) ((g.at_ 0).lo + (i + 1) * 4) w.drew
       obtain ⟨r1,r2,r3,r4⟩:=zb7 (g.at_ 0).blk vs ((g.at_ 0).lo + i * 4) (w.drew.setCells (g.at_ 0).blk ((g.at_ 0).lo + (i + 1) * 4) (cs.drop (i * 4)))
       have hdl:(cs.drop (i * 4)).length=(len - i) * 4:=by rw [List.length_drop,hcl]; omega
       have hsp1:∀ j,j < (len + 1) * 4→((w.drew.setCells (g.at_ 0).blk ((g.at_ 0).lo + (i + 1) * 4) (cs.drop (i * 4))).cell? ⟨(g.at_ 0).blk,(g.at_ 0).lo + j,none⟩).isSome=true:=fun j hj =>
        isSome_setCells _ _ _ _ (fun t ht=>by rw [Nat.add_assoc]; exact hsp _ (by omega)) _ (hsp j hj)
       refine fin _ _ _ _ (r1.trans q1) (r2.trans q2) (r3.trans q3) (by rw [r4,q4]; exact Nat.le_refl _)
        (fun b hb=>((za7 _ b (cs.drop (i * 4)) _ w.drew).mono fun q ⟨n1,n2,n3⟩=>?_).trans ((za7 _ b vs _ _).mono fun q ⟨n1,n2,n3⟩=>?_)) (fun q u hq=>?_) (.inl fun q hq=>hown q (by omega)) hroom
       ·subst n1
        have:=hown (q - (g.at_ 0).lo) (by omega)
        rwa [show (g.at_ 0).lo + (q - (g.at_ 0).lo)=q by omega] at this
       ·subst n1
        have:=hown (q - (g.at_ 0).lo) (by omega)
        rwa [show (g.at_ 0).lo + (q - (g.at_ 0).lo)=q by omega] at this
       ·have htl:(cs.take (i * 4)).length=i * 4:=by rw [List.length_take]; omega
        by_cases hlt:q < i * 4
        ·rw [List.getElem?_append_left (by omega),List.getElem?_take,if_pos hlt] at hq
         rw [World.cell?_setCells_out _ _ _ _ _ (fun _ _=>by show (g.at_ 0).lo + q < (g.at_ 0).lo + i * 4 ∨ _; omega),World.cell?_setCells_out _ _ _ _ _ (fun _ _=>by show (g.at_ 0).lo + q < (g.at_ 0).lo + (i + 1) * 4 ∨ _; omega)]
         exact m2 q u hq
        ·rw [List.getElem?_append_right (by omega),htl] at hq
         by_cases hlt2:q < (i + 1) * 4
         ·rw [List.getElem?_append_left (by omega)] at hq
          have:=zbt (b:=(g.at_ 0).blk) (o:=(g.at_ 0).lo + i * 4) (vs:=vs) (w:=w.drew.setCells (g.at_ 0).blk ((g.at_ 0).lo + (i + 1) * 4) (cs.drop (i * 4))) (fun j hj=>by have:=hsp1 (i * 4 + j) (by omega); rwa [← Nat.add_assoc] at this) (q - i * 4) u hq
          rwa [show (g.at_ 0).lo + i * 4 + (q - i * 4)=(g.at_ 0).lo + q by omega] at this
         ·rw [List.getElem?_append_right (by omega)] at hq
          rw [World.cell?_setCells_out _ _ _ _ _ (fun _ _=>by show (g.at_ 0).lo + q < (g.at_ 0).lo + i * 4 ∨ (g.at_ 0).lo + i * 4 + vs.length ≤ (g.at_ 0).lo + q; omega)]
          have:=zbt (b:=(g.at_ 0).blk) (o:=(g.at_ 0).lo + (i + 1) * 4) (vs:=cs.drop (i * 4)) (w:=w.drew) (fun j hj=>by have:=hsp ((i + 1) * 4 + j) (by omega); rwa [← Nat.add_assoc] at this) (q - i * 4 - vs.length) u hq
          rwa [show (g.at_ 0).lo + (i + 1) * 4 + (q - i * 4 - vs.length)=(g.at_ 0).lo + q by omega] at this
     ·have hlc:len ≤ c:=by
       obtain ⟨A',c',ee,hh⟩:=(by assumption:∃ A_1 c_1,Value.slice A len c=Value.slice A_1 len c_1∧len ≤ c_1)
       cases ee
       exact hh
      have hgc:=grownCap_ge w (len + 1) c (ρ.t 9)
      by_cases hend:i=len
      ·subst hend
       have hnew:=zs6 L A i c vb voff 1 c3 cs vs w (by omega) hlc (by omega) (by omega) hcl hvl (fun e=>by
         rcases hA with hA | ⟨hA,_⟩
         ·omega
         ·rw [e] at hA; cases hA) (fun hn a e=>by
         rcases hA with hA | ⟨hA,_⟩
         ·omega
         ·rw [e] at hA; cases hA; rfl) (fun a e j v hj=>by
         have hlt:j < cs.length:=by
          rcases Qn j cs.length with h | h
          ·exact h
          ·rw [Qe h] at hj; cases hj
         rcases hA with hA | ⟨hA,_⟩
         ·omega
         ·rw [e] at hA; cases hA
          rw [Addr.add_lit,Nat.zero_mul,Nat.add_zero]
          exact m2 j v hj) hvs3
       refine hnew.mono fun e w' hw=>?_
       obtain ⟨rfl,rfl⟩:=hw
       have hsz:(w.drew.alloc (.cells (cs++vs++(Builtin.zeroCells zpr.cells (grownCap w (i + 1) c (ρ.t 9) - (i + 1))).toList).toArray (ρ.t 9))).heap.size=w.heap.size + 1:=Array.size_push ..
       refine fin _ _ _ _ rfl rfl rfl (by rw [hsz]; omega) (fun b hb=>.inl (by show (w.heap.push _)[b]?=_; rw [Array.getElem?_push,if_neg (by omega)])) (fun q u hq=>?_) (.inr ⟨rfl,by rw [hsz]; omega⟩) (by omega)
       rw [List.take_of_length_le (by omega),List.drop_of_length_le (by omega),List.append_nil] at hq
       have:=zfj w.drew (cs++vs++(Builtin.zeroCells zpr.cells (grownCap w (i + 1) c (ρ.t 9) - (i + 1))).toList) (ρ.t 9) q u (by
        rw [List.getElem?_append_left]
        ·exact hq
        ·rcases Qn q (cs++vs).length with h | h
         ·exact h
         ·rw [Qe h] at hq; cases hq)
       exact this
      ·rcases hA with hA | ⟨rfl,hA⟩
       ·omega
       rw [Nat.zero_mul,Nat.add_zero] at *
       obtain ⟨ROW,hRs,hR,hC⟩:=z4c L (g.at_ 0).blk (g.at_ 0).lo len c i vb voff 1 c3 cs vs w (by omega) (by omega) hlc (by omega) (by omega) hcl hvl (fun j v hj=>m2 j v hj) hvs3 m1.ones e1.ones
       refine hC.mono fun e w' hw=>?_
       obtain ⟨rfl,rfl⟩:=hw
       obtain ⟨q1,q2,q3,q4⟩:=zb7 w.heap.size vs (i * 4) (w.alloc (.cells ROW (ρ.t 9))).drew
       obtain ⟨r1,r2,r3,r4⟩:=zb7 w.heap.size (cs.drop (i * 4)) ((i + 1) * 4) ((w.alloc (.cells ROW (ρ.t 9))).drew.setCells w.heap.size (i * 4) vs).drew
       have hsz:(w.alloc (.cells ROW (ρ.t 9))).heap.size=w.heap.size + 1:=Array.size_push ..
       have hdl:(cs.drop (i * 4)).length=(len - i) * 4:=by rw [List.length_drop,hcl]; omega
       have hnb:∀ (b:Nat),b < w.heap.size→∀ (W:World) (us:List Value) (o:Nat),(W.setCells w.heap.size o us).heap[b]?=W.heap[b]?:=fun b hb W us o=>by
        rcases za7 w.heap.size b us o W with h | ⟨c1,c2,t,fr,p1,p2,p3,p4⟩ | ⟨es,cl,es',cl',p1,p2,p3⟩ | ⟨rl,st,pe,p1,p2,p3⟩
        ·exact h
        ·rw [p1,p2]
         have:c2=c1:=Array.ext_getElem? fun k=>p4 k (by omega)
         rw [this]
        ·exact absurd (p3 0) (by omega)
        ·exact absurd (p3 0) (by omega)
       have hnew:∀ j,j < ROW.size→((w.alloc (.cells ROW (ρ.t 9))).cell? ⟨w.heap.size,j,none⟩)=ROW[j]?:=fun j hj=>World.cell?_alloc_at (w:=w) ROW _ w.heap.size j rfl
       have hfs:=r4.trans (q4.trans hsz)
       have hsome:∀ j,j < ROW.size→((w.alloc (.cells ROW (ρ.t 9))).drew.cell? (zag w.heap.size j)).isSome=true:=fun j hj=>by
        show ((w.alloc (.cells ROW (ρ.t 9))).cell? ⟨w.heap.size,j,none⟩).isSome=true
        rw [hnew j hj,Array.getElem?_eq_getElem hj]; rfl
       refine fin _ _ 0 _ (r1.trans q1) (r2.trans q2) (r3.trans q3) (by rw [hfs]; omega) (fun b hb=>.inl ?_) (fun q u hq=>?_) (.inr ⟨rfl,by rw [hfs]; omega⟩) (by omega)
       ·rw [hnb b hb]
        show (World.setCells _ _ _ _).heap[b]?=_
        rw [hnb b hb]
        show (w.heap.push _)[b]?=_
        rw [Array.getElem?_push,if_neg (by omega)]
       ·rw [Nat.zero_add]
        have htl:(cs.take (i * 4)).length=i * 4:=by rw [List.length_take]; omega
        by_cases hlt:q < i * 4
        ·rw [List.getElem?_append_left (by omega)] at hq
         rw [World.cell?_setCells_out _ _ _ _ _ (fun _ _=>by show q < (i + 1) * 4 ∨ _; omega)]
         show (World.setCells _ _ _ _).cell? _=_
         rw [World.cell?_setCells_out _ _ _ _ _ (fun _ _=>by show q < i * 4 ∨ _; omega)]
         show (w.alloc (.cells ROW (ρ.t 9))).cell? ⟨w.heap.size,q,none⟩=some u
         rw [hnew q (by omega)]
         exact hR q u hq
        ·rw [List.getElem?_append_right (by omega),htl] at hq
         by_cases hlt2:q < (i + 1) * 4
         ·rw [List.getElem?_append_left (by omega)] at hq
          rw [World.cell?_setCells_out _ _ _ _ _ (fun _ _=>by show q < (i + 1) * 4 ∨ _; omega)]
          have:=zbt (b:=w.heap.size) (o:=i * 4) (vs:=vs) (w:=(w.alloc (.cells ROW (ρ.t 9))).drew) (fun j hj=>hsome _ (by omega)) (q - i * 4) u hq
          rwa [show i * 4 + (q - i * 4)=q by omega] at this
         ·rw [List.getElem?_append_right (by omega)] at hq
          have:=zbt (b:=w.heap.size) (o:=(i + 1) * 4) (vs:=cs.drop (i * 4)) (w:=((w.alloc (.cells ROW (ρ.t 9))).drew.setCells w.heap.size (i * 4) vs).drew) (fun j hj=>isSome_setCells _ _ _ _ (fun t ht=>hsome _ (by omega)) _ (hsome _ (by omega))) (q - i * 4 - vs.length) u hq
          rwa [show (i + 1) * 4 + (q - i * 4 - vs.length)=q by omega] at this
   ·cases h
  ·cases h
 ·cases h
end
open Go
open Go.RowKit (Below)
open Go.Shelf Go.Lib Go.Proofs
noncomputable def clFn (ρ:Ren) (nm:String) (ta:Array TypeId):Func:={ Body2.n16 ρ with name:=nm,targs:=ta }
theorem zps (ρ:Ren)(nm:String)(ta:Array TypeId):(clFn ρ nm ta).ntmps=8:=rfl
structure ClP (P:Program)(ρ:Ren)(fid:FuncId)(nm:String)(ta:Array TypeId)(z bb:Nat):Prop where
 mixed:P.follows .mixedOrders=true
 fn:P.funcs[fid]?=some (clFn ρ nm ta)
 t4:P.underlying (ρ.t 4)=some (TypeDesc.bool)
 t24:P.underlying (ρ.t 24)=some (TypeDesc.slice (ρ.t 9))
 z9:P.cellsOf (ρ.t 9)=z
 b9:P.bytesOf (ρ.t 9)=bb
 z0:z ≠ 0
 b0:bb ≠ 0
 o9:(zcp P (ρ.t 9)).isSome=true
def zex (z bb:Nat):List V→List (Option Obj)→Option (V × List (Option Obj))
 | [.d (.l z' rows)],[]=>if z'=z∧zbi rows.length bb=true then some (.arr 0 0 0 rows.length,[some (.arr 0 z (rows.map ofDs))]) else none
 | _,_=>none
section
variable {P:Program} {tab:Tab} {g:Gh} {obj:Nat→Option Obj} {w:World} {ρ:Ren} {fid:FuncId} {nm:String} {ta:Array TypeId} {z bb:Nat}
theorem zaq.get':∀ {xs:List D} {us:List Value} {q:Nat} {d:D},zaq tab g.im w xs us→xs[q]?=some d→∃ u,us[q]?=some u∧za9 tab g.im w d u
 | [],_,_,_,_,h=>by simp at h
 | x :: xs,[],_,_,h,_=>by simp only [zaq] at h
 | x :: xs,u :: us,0,d,h,k=>by simp only [zaq] at h; simp at k; subst k; exact ⟨u,rfl,h.1⟩
 | x :: xs,u :: us,q + 1,d,h,k=>by simp only [zaq] at h; simpa using zaq.get' h.2 (by simpa using k)
theorem zjn {α:Type}{c:Nat}:∀ (xs:List (List α)) (i q:Nat) (r:List α) (x:α),(∀ r ∈ xs,r.length=c)→xs[i]?=some r→r[q]?=some x→xs.flatten[i * c + q]?=some x
 | [],i,q,r,x,_,h,_=>by simp at h
 | y :: ys,0,q,r,x,h,k,hq=>by
  simp at k; subst k
  have hlt:q < y.length:=by
   rcases Qn q y.length with h | h
   ·exact h
   ·rw [Qe h] at hq; cases hq
  rw [Nat.zero_mul,Nat.zero_add,List.flatten_cons,List.getElem?_append_left hlt]; exact hq
 | y :: ys,i + 1,q,r,x,h,k,hq=>by
  have hy:y.length=c:=h y (by simp)
  rw [List.flatten_cons,List.getElem?_append_right (by rw [hy,Nat.add_mul]; omega),hy,show (i + 1) * c + q - c=i * c + q by rw [Nat.add_mul]; omega]
  exact zjn ys i q r x (fun r hr=>h r (by simp [hr])) (by simpa using k) hq
theorem zq7 (hH:HRel tab g obj w){id:Nat}(hf:obj id=none){w':World}(os:w'.os=w.os)(tape:w'.tape=w.tape)(output:w'.output=w.output)(size:w.heap.size ≤ w'.heap.size)
  (blk:∀ b,b < w.heap.size→w'.heap[b]?=w.heap[b]?) {pb lo cnt sz:Nat} {us:List Value} {zs:List (List D)} (hz:zaq tab g.im w zs.flatten us) (hs:∀ r ∈ zs,r.length=sz) (hold:zbu w' pb lo us)
  (hcell:∀ q,q < cnt→(w'.cell? (zag pb (lo + q))).isSome=true) (hnew:cnt=0 ∨ (w.heap.size ≤ pb∧pb < w'.heap.size∧∀ q,w'.frozen? (zag pb q)=false)) (hcnt:zs.length * sz ≤ cnt)
  {A:Option Addr} {c:Nat} (hlc:zs.length ≤ c) (hA:c=0 ∨ (A=some (zag pb lo)∧c * sz ≤ cnt)) :
  ∃ g',Post tab g obj w g' (zb2 obj id (some (.arr 0 sz (zs.map ofDs)))) w'∧zai tab g' (zb2 obj id (some (.arr 0 sz (zs.map ofDs)))) w' (.arr id 0 0 zs.length) (.slice A zs.length c):=by
 have hown:∀ b q,zbd ⟨zdc g.at_ id ⟨pb,lo,cnt⟩,g.im⟩ (zb2 obj id (some (.arr 0 sz (zs.map ofDs)))) id b q→b=pb∧lo ≤ q∧q < lo + cnt:=fun b q h=>by
  unfold zbd at h
  simp only [zao,zav] at h
  exact h
 have zfo:∀ b o,g.im b o→w'.cell? (zag b o)=w.cell? (zag b o):=fun b o h=>(zbn.cell (own:=fun _=>False) (.inl (blk b (hH.imOld b o h))) (fun h=>h))
 obtain ⟨k1,k2,k3⟩:=zfw (w':=w') hH id (.arr 0 sz (zs.map ofDs)) ⟨pb,lo,cnt⟩ g.im os tape output size (fun b hb=>.inl (blk b hb)) (fun _ _ h=>h) (fun _ _ h=>.inl h)
  (fun b q h=>by
   obtain ⟨rfl,h2,h3⟩:=hown b q h
   rcases hnew with hn | ⟨hn,hn2,_⟩
   ·omega
   ·exact ⟨.inr ⟨hn,hn2⟩,fun hi=>by have:=hH.imOld _ _ hi; omega⟩)
  (fun b q h _=>by
   obtain ⟨rfl,h2,h3⟩:=hown b q h
   rcases hnew with hn | ⟨_,_,hn⟩
   ·omega
   ·exact hn)
  (.fresh hf _ _ _)
  (fun hv=>by
   refine ⟨fun r hr=>?_,by simpa using hcnt,hcell,fun i r q x hi hq=>?_⟩
   ·obtain ⟨r0,h0,rfl⟩:=List.mem_map.1 hr
    simp [ofDs,hs r0 h0]
   ·rw [List.getElem?_map] at hi
    obtain ⟨r0,h0,rfl⟩:=Option.map_eq_some_iff.1 hi
    simp only [ofDs,List.getElem?_map] at hq
    obtain ⟨d,hd,rfl⟩:=Option.map_eq_some_iff.1 hq
    obtain ⟨u,m1,m2⟩:=hz.get' (zjn zs i q r0 d hs h0 hd)
    refine ⟨u, ?_,hv (.d d) u (by simp only [zai]; exact m2),m2.one⟩
    have:=hold _ u m1
    rwa [← Nat.add_assoc] at this)
 refine ⟨_,⟨k1,k2,k3⟩, ?_⟩
 simp only [zai,zao,zav]
 refine ⟨⟨_,_,rfl,hlc⟩,0,sz,_,rfl,Nat.le_refl _,fun _=>⟨by simp,_,_,rfl, ?_⟩⟩
 simpa using hA
set_option maxHeartbeats 2000000 in
set_option maxRecDepth 100000 in
theorem zz9 (L:ClP P ρ fid nm ta z bb)(n c:Nat)(w:World) :
  Calls P fid #[.slice none n c] w fun e w'=>e = .returned (.slice none 0 0)∧w'=w:=by
 have mixed:=L.mixed; have t4:=L.t4; have t24:=L.t24
 have q24:∀ (w:World) (a:Option Addr) (n c n' c':Nat),(Go.binOp .eql (ρ.t 24) (.slice a n c) (.slice none n' c')).run P w = .ok (.bool a.isNone) w:=fun w a n c n' c'=>Lib.run_eql_slice_nil w _ _ a n c n' c' L.t24
 go_enter L.fn,zps ρ
 go_wp2
 go_ret
 exact ⟨rfl,rfl⟩
set_option maxHeartbeats 2000000 in
set_option maxRecDepth 100000 in
theorem zpt (L:ClP P ρ fid nm ta z bb)(a:Addr)(n c:Nat)(w:World)(v:Value)(w':World)
  (hrun:∀ ty,(Builtin.append_ #[ρ.t 24,ρ.t 24] ty #[.slice (some ⟨w.heap.size,0,none⟩) 0 0,.slice (some a) n c]).run P (w.alloc (.cells #[] (ρ.t 9))) = .ok v w') :
  Calls P fid #[.slice (some a) n c] w fun e w2=>e = .returned v∧w2=w':=by
 have mixed:=L.mixed; have t4:=L.t4; have t24:=L.t24
 have q24:∀ (w:World) (a:Option Addr) (n c n' c':Nat),(Go.binOp .eql (ρ.t 24) (.slice a n c) (.slice none n' c')).run P w = .ok (.bool a.isNone) w:=fun w a n c n' c'=>Lib.run_eql_slice_nil w _ _ a n c n' c' L.t24
 have u24:∀ w,Sem.run P (underlying (ρ.t 24)) w = .ok (TypeDesc.slice (ρ.t 9)) w:=run_underlying t24
 have s9:∀ w,(Go.sizeOf (ρ.t 9)).run P w = .ok z w:=fun w=>by rw [zci (by rw [L.z9]; exact L.z0),L.z9]
 go_enter L.fn,zps ρ
 go_wp2_with (at_builtin; refine Lib.wpList_append_run _ rfl _ _ _ _ rfl _ _ rfl rfl _ _ (hrun _) ?_)
 go_ret
 exact ⟨rfl,rfl⟩
theorem z4d (L:ClP P ρ fid nm ta z bb):zv5 P tab fid (zex z bb):=by
 intro args hp r hp' h g w vs hH hvs
 unfold zex at h
 split at h
 ·rename_i z' rows
  split at h
  ·rename_i hcond
   obtain ⟨rfl,hroom⟩:=hcond
   simp only [Qa,Qj] at h
   obtain ⟨rfl,rfl⟩:=h
   match vs,hvs with
   | [v],hvs =>
    simp only [zah,zai,za9] at hvs
    obtain ⟨⟨A,c,rfl,hlc,hrow,hA⟩,_⟩:=hvs
    have hobj:∀ o:Obj,zax [some o]=zb2 (zax []) 0 (some o):=fun o=>by
     funext i
     cases i with
     | zero=>rfl
     | succ i=>simp [zax,zb2]
    have hf:zax [] 0=none:=rfl
    have fin:∀ (v:Value) (w':World),(∃ g',Post tab g (zax []) w g' (zb2 (zax []) 0 (some (.arr 0 z' (rows.map ofDs)))) w'∧zai tab g' (zb2 (zax []) 0 (some (.arr 0 z' (rows.map ofDs)))) w' (.arr 0 0 0 rows.length) v) →
      ∃ v1 g',Ending.returned v = .returned v1∧HRel tab g' (zax [some (.arr 0 z' (rows.map ofDs))]) w'∧Evo g (zax []) w g' (zax [some (.arr 0 z' (rows.map ofDs))]) w'∧zai tab g' (zax [some (.arr 0 z' (rows.map ofDs))]) w' (.arr 0 0 0 rows.length) v1:=by
     rintro v w' ⟨g',p1,p2⟩
     rw [hobj]
     exact ⟨v,g',rfl,p1.heap,p1.evo,p2⟩
    cases A with
    | none =>
     have hr0:rows=[]:=by
      rcases hA with hA | ⟨b,o,hA,_⟩
      ·exact hA
      ·cases hA
     subst hr0
     refine (zz9 L 0 c w).mono fun e w' hw=>?_
     obtain ⟨rfl,rfl⟩:=hw
     exact fin _ _ (zq7 (pb:=0) (lo:=0) (cnt:=0) (us:=[]) hH hf rfl rfl rfl (Nat.le_refl _) (fun _ _=>rfl) (by simp [zaq]) (by simp) (zbu.nil' _ _ _) (fun q hq=>by omega) (.inl rfl) (by simp) (Nat.le_refl _) (.inl rfl))
    | some a =>
     have hcz:P.cellsOf (ρ.t 9) ≠ 0:=by rw [L.z9]; exact L.z0
     have hsz:(w.alloc (.cells #[] (ρ.t 9))).heap.size=w.heap.size + 1:=Array.size_push ..
     have hold0:∀ b,b < w.heap.size→(w.alloc (.cells #[] (ρ.t 9))).heap[b]?=w.heap[b]?:=fun b hb=>by
      show (w.heap.push _)[b]?=_; rw [Array.getElem?_push,if_neg (by omega)]
     have hsl:zcm P (ρ.t 24)=true:=by unfold zcm; rw [L.t24]
     by_cases hr0:rows=[]
     ·subst hr0
      refine (zpt L a 0 c w _ _ (fun ty=>zc5 L.t24 hsl hcz (some ⟨w.heap.size,0,none⟩) (some a) 0 0 c (Nat.le_refl _))).mono fun e w' hw=>?_
      obtain ⟨rfl,rfl⟩:=hw
      refine fin _ _ ?_
      exact zq7 (w':=w.alloc (.cells #[] (ρ.t 9))) (zs:=[]) (pb:=0) (lo:=0) (cnt:=0) (us:=[]) hH hf rfl rfl rfl (by omega) hold0 (by simp [zaq]) (by simp) (zbu.nil' _ _ _) (fun q hq=>by omega) (.inl rfl) (by simp) (Nat.le_refl _) (.inl rfl)
     ·rcases hA with hA | ⟨b,o,hA,hrows⟩
      ·exact absurd hA hr0
      simp only [Qa] at hA
      subst hA
      obtain ⟨i,hi,his⟩:=zk6 hcz
      have hib:i.bytes=bb:=by rw [← L.b9]; unfold Program.bytesOf; simp [hi]
      obtain ⟨zv,hzv⟩:=Option.isSome_iff_exists.1 L.o9
      obtain ⟨i',z0,hi',hiz,_,hzc,hzl,_⟩:=zcx (tab:=tab) hzv g (zax []) w
      rw [hi] at hi'
      cases hi'
      have hzs:z0.cells.size=z':=by rw [← Array.length_toList,hzc.length,hzl,L.z9]
      obtain ⟨us,k1,k2,k3,k4⟩:=zd6 (P:=P) (tab:=tab) (g:=g) (w:=w) (A:=some (zag b o)) (c:=c) hrow (.inr ⟨b,o,rfl,hrows⟩)
      obtain ⟨r1,r2⟩:=zqk hroom L.b0
      have hpos:0 < rows.length:=List.length_pos_iff.2 hr0
      have hbo:∀ q,q < us.length→(∃ u,us[q]?=some u):=fun q hq=>⟨_,Qd hq⟩
      have hHo:zbu w b o us:=by
       rcases k4 b o rfl with h | h
       ·exact absurd h hr0
       ·exact h
      have hHo':∀ j v,us[j]?=some v→(w.alloc (.cells #[] (ρ.t 9))).cell? ((zag b o).add j)=some v:=fun j v hj=>by
       rw [zev]
       exact cell?_alloc_some _ (hHo j v hj)
      have hrun:∀ ty,(Builtin.append_ #[ρ.t 24,ρ.t 24] ty #[.slice (some ⟨w.heap.size,0,none⟩) 0 0,.slice (some (zag b o)) rows.length c]).run P (w.alloc (.cells #[] (ρ.t 9)))=_:=fun ty =>
       zd5 (w:=w.alloc (.cells #[] (ρ.t 9))) (ty:=ty) L.t24 hsl hi hiz (some ⟨w.heap.size,0,none⟩) (some (zag b o)) 0 0 rows.length c [] us
        (fun w' hw=>by simp [Builtin.firstCells,loadCells,loadCellsFrom])
        (fun w' hw=>by
         rw [his,L.z9]
         show (loadCells (zag b o) (rows.length * z')).run P w'=_
         rw [← k2]
         refine run_loadCells_list w' _ us (fun j v hj=>?_)
         rw [zev,hw,← zev]
         exact hHo' j v hj)
        (by omega) (by omega) (by rw [Nat.zero_add]; exact growslice_fits (by omega) (by rw [hib]; omega))
      refine (zpt L (zag b o) rows.length c w _ _ hrun).mono fun e w' hw=>?_
      obtain ⟨rfl,rfl⟩:=hw
      rw [Nat.zero_add,List.nil_append]
      have hge:=grownCap_ge (w.alloc (.cells #[] (ρ.t 9))) rows.length 0 (ρ.t 9)
      generalize hcap:grownCap (w.alloc (.cells #[] (ρ.t 9))) rows.length 0 (ρ.t 9)=cap at *
      have hrl:(us++(Builtin.zeroCells z0.cells (cap - rows.length)).toList).length=cap * z':=by
       have hzl2:(Builtin.zeroCells z0.cells (cap - rows.length)).toList.length=(cap - rows.length) * z':=by rw [Array.length_toList,size_zeroCells,hzs]
       rw [Qg,hzl2,k2,← Nat.add_mul]
       congr 1; omega
      have hH2:=zfj (w.alloc (.cells #[] (ρ.t 9))).drew (us++(Builtin.zeroCells z0.cells (cap - rows.length)).toList) (ρ.t 9)
      have hsz2:((w.alloc (.cells #[] (ρ.t 9))).drew.alloc (.cells (us++(Builtin.zeroCells z0.cells (cap - rows.length)).toList).toArray (ρ.t 9))).heap.size=w.heap.size + 2:=by
       show ((w.alloc (.cells #[] (ρ.t 9))).heap.push _).size=_
       rw [Array.size_push,hsz]
      refine fin _ _ ?_
      refine zq7 (w':=(w.alloc (.cells #[] (ρ.t 9))).drew.alloc (.cells (us++(Builtin.zeroCells z0.cells (cap - rows.length)).toList).toArray (ρ.t 9))) (zs:=rows) (pb:=w.heap.size + 1) (lo:=0) (cnt:=cap * z') (us:=us) hH hf rfl rfl rfl (by omega) (fun q hq=>?_) k1 hrow (fun q u hq=>?_) (fun q hq=>?_) (.inr ⟨by omega,by omega,fun q=>?_⟩) (Nat.mul_le_mul_right _ hge) hge (.inr ⟨?_,Nat.le_refl _⟩)
      ·show ((w.alloc (.cells #[] (ρ.t 9))).heap.push _)[q]?=_
       rw [Array.getElem?_push,if_neg (by omega)]
       exact hold0 q hq
      ·have:=hH2 q u (by
        rw [List.getElem?_append_left]
        ·exact hq
        ·rcases Qn q us.length with h | h
         ·exact h
         ·rw [Qe h] at hq; cases hq)
       have hs1:(w.alloc (.cells #[] (ρ.t 9))).drew.heap.size=w.heap.size + 1:=hsz
       rw [hs1] at this
       exact this
      ·have:=hH2 q _ (Qd (by omega))
       have hs1:(w.alloc (.cells #[] (ρ.t 9))).drew.heap.size=w.heap.size + 1:=hsz
       rw [hs1] at this
       rw [this]; rfl
      ·have:=World.frozen?_alloc_new (w:=(w.alloc (.cells #[] (ρ.t 9))).drew) (us++(Builtin.zeroCells z0.cells (cap - rows.length)).toList).toArray (ρ.t 9) q
       have hs1:(w.alloc (.cells #[] (ρ.t 9))).drew.heap.size=w.heap.size + 1:=hsz
       rw [hs1] at this
       exact this
      ·rw [hsz]
  ·cases h
 ·cases h
end
open Go
open Go.RowKit (Below)
open Go.Shelf Go.Lib Go.Proofs
section
variable {P:Program} {tab:Tab} {fid:Nat}
theorem zxr {g:Gh}{w w':World}(h:HRel tab g (zax []) w)(hb:Below w.heap.size w w'):HRel tab g (zax []) w'∧Evo g (zax []) w g (zax []) w':=by
 have hn:∀ id,zax [] id=none:=fun id=>rfl
 have no:∀ id b o,¬ zbd g (zax []) id b o:=fun id b o k=>by unfold zbd at k; rw [hn] at k; exact k
 refine ⟨⟨fun id o k=>(by rw [hn] at k; cases k),fun id b o k=>absurd k (no _ _ _),fun id _ b o k=>absurd k (no _ _ _),fun id b o k=>absurd k (no _ _ _),fun id b o k=>absurd k (no _ _ _),fun b o k=>Nat.lt_of_lt_of_le (h.imOld b o k) hb.size⟩,
  ⟨hb.os,hb.tape,hb.output,hb.size,fun b k=>.inl (hb.block b k),fun _ _ k=>k,fun _ _ k=>.inl k,fun _ _ k=>.inl k,.refl _ _⟩⟩
theorem zpu {f:List V→List (Option Obj)→Option (V × List (Option Obj))}(hf:∀ args hp r h',f args hp=some (r,h')→hp=[]∧h'=[]∧∀ (g:Gh) (w:World) (vs:List Value),zah tab g (zax []) w args vs →
  Calls P fid vs.toArray w fun e w'=>∃ v,e = .returned v∧Below w.heap.size w w'∧zai tab g (zax []) w' r v):zv5 P tab fid f:=by
 intro args hp r h' h g w vs hH hvs
 obtain ⟨rfl,rfl,k⟩:=hf args hp r h' h
 refine (k g w vs hvs).mono fun e w' ⟨v,he,hb,hv⟩=>?_
 obtain ⟨h1,h2⟩:=zxr hH hb
 exact ⟨v,g,he,h1,h2,hv⟩
def zfd:Nat→List UInt8→Option Nat
 | acc,[]=>some acc
 | acc,c :: r=>if 48 ≤ c.toNat∧c.toNat ≤ 57 then zfd (acc * 10 + (c.toNat - 48)) r else none
def zgq (x:List UInt8):Option Nat:=match x with
 | []=>none
 | _ :: _=>if x.length ≤ 18 then zfd 0 x else none
def zh2:List V→List (Option Obj)→Option (V × List (Option Obj))
 | [.d (.s x),.d (.i k b),.d (.i k' n)],[]=>if k = .i64∧b=10∧k' = .i64∧n=64 then match zgq x with
   | some m=>some (.tup [.d (.i .i64 m),.bad],[])
   | none=>none
  else none
 | _,_=>none
theorem decGo_lt:∀ (x:List UInt8) (acc m k:Nat),zfd acc x=some m→acc < 10 ^ k→m < 10 ^ (k + x.length)
 | [],acc,m,k,h,ha=>by simp only [zfd,Qa] at h; subst h; simpa using ha
 | c :: r,acc,m,k,h,ha=>by
  simp only [zfd] at h
  split at h
  ·have:=decGo_lt r _ m (k + 1) h (by rw [Nat.pow_succ]; omega)
   rwa [List.length_cons,show k + (r.length + 1)=k + 1 + r.length by omega]
  ·cases h
theorem zn4:∀ (x:List UInt8) (acc m k:Nat),zfd acc x=some m→acc < 10 ^ k→k + x.length ≤ 18→parseUintM (2 ^ 64 - 1) acc x = .ok m
 | [],acc,m,k,h,ha,hk=>by simp only [zfd,Qa] at h; subst h; rfl
 | c :: r,acc,m,k,h,ha,hk=>by
  simp only [zfd] at h
  simp only [List.length_cons] at hk
  have hp:(10:Nat) ^ k ≤ 10 ^ 17:=Nat.pow_le_pow_right (by omega) (by omega)
  split at h
  ·rename_i hc
   simp only [parseUintM]
   rw [if_pos hc,if_neg (by omega),if_neg (by omega)]
   exact zn4 r _ m (k + 1) h (by rw [Nat.pow_succ]; omega) (by omega)
  ·cases h
theorem zuo {x:List UInt8}{m:Nat}(h:zgq x=some m):parseIntB 64 x = .ok (m:Int):=by
 unfold zgq at h
 split at h
 ·cases h
 ·rename_i c r
  split at h
  ·rename_i hl
   have hm:=decGo_lt _ 0 m 0 h (by decide)
   have hp:(10:Nat) ^ (0 + (c :: r).length) ≤ 10 ^ 18:=Nat.pow_le_pow_right (by omega) (by omega)
   have hq:=zn4 _ 0 m 0 h (by decide) (by omega)
   have hc:48 ≤ c.toNat∧c.toNat ≤ 57:=by
    simp only [zfd] at h
    split at h
    ·assumption
    ·cases h
   unfold parseIntB
   simp only
   rw [if_neg (by omega)]
   unfold parseUintB
   rw [if_neg (by simp),hq]
   simp only
   rw [if_neg (by omega),if_neg (by omega),if_neg (by omega)]
  ·cases h
theorem z4e {ρ:Ren}(L:LaysC.n174 P ρ):zv5 P tab (ρ.f 174) zh2:=by
 refine zpu fun args hp r h' h=>?_
 unfold zh2 at h
 split at h
 ·rename_i x k b k' n
  split at h
  ·rename_i hc
   obtain ⟨rfl,rfl,rfl,rfl⟩:=hc
   split at h
   ·rename_i m hm
    simp only [Qa,Qj] at h
    obtain ⟨rfl,rfl⟩:=h
    refine ⟨rfl,rfl,fun g w vs hvs=>?_⟩
    match vs,hvs with
    | [a,b,c],hvs =>
     simp only [zah,zai,za9] at hvs
     obtain ⟨⟨s,rfl,rfl⟩,rfl,rfl,_⟩:=hvs
     have hsz:s.size ≤ 18:=by
      unfold zgq at hm
      split at hm
      ·cases hm
      ·rename_i hx
       split at hm
       ·rename_i hl
        simpa using hl
       ·cases hm
     refine (Any.strconv_ParseInt_10_at64_ok L s (by omega) m (zuo hm) w).mono fun e w' ⟨he,hw⟩=>?_
     refine ⟨_,he, ?_, ?_⟩
     ·rcases hw with rfl | ⟨t,rfl⟩
      ·exact .refl _ _
      ·exact bytesWorld_below _ _ _
     ·simp only [zai]
      exact ⟨[.int .i64 m,.nilIface],rfl,by simp [zah,zai,za9]⟩
   ·cases h
  ·cases h
 ·cases h
def zfx (cs:List UInt8):List UInt8→List UInt8
 | []=>[]
 | c :: r=>if cs.contains c then zfx cs r else c :: r
theorem zv8 (cs:List UInt8):∀ (x:List UInt8),zfx cs x=x.dropWhile (cs.contains ·)
 | []=>rfl
 | c :: r=>by
  simp only [zfx,List.dropWhile_cons]
  rw [zv8 cs r]
def Zgu (cs:List UInt8):Bool:=cs.all fun b=>decide (b.toNat < 128)
def zkl:List V→List (Option Obj)→Option (V × List (Option Obj))
 | [.d (.s x),.d (.s cs)],[]=>if cs.length ≤ 1000∧x.length ≤ 1000000∧Zgu cs=true then some (.d (.s (zfx cs (zfx cs x.reverse).reverse)),[]) else none
 | _,_=>none
theorem z9d {ρ:Ren}(L:Lays.n160 P ρ)(h116:(P.info? (ρ.t 116)).map (fun i=>(i.zero,i.size))=some (some (.agg (Array.replicate 256 (.bool false))),256)):zv5 P tab (ρ.f 160) zkl:=by
 refine zpu fun args hp r h' h=>?_
 unfold zkl at h
 split at h
 ·rename_i x cs
  split at h
  ·rename_i hc
   obtain ⟨h1,h2,h3⟩:=hc
   simp only [Qa,Qj] at h
   obtain ⟨rfl,rfl⟩:=h
   refine ⟨rfl,rfl,fun g w vs hvs=>?_⟩
   match vs,hvs with
   | [a,b],hvs =>
    simp only [zah,zai,za9] at hvs
    obtain ⟨⟨s,rfl,rfl⟩,⟨t,rfl,rfl⟩,_⟩:=hvs
    have hs:s.size ≤ 1000000:=by simpa using h2
    have ht:t.size ≤ 1000:=by simpa using h1
    refine (Any.strings_Trim_laid L h116 s t w (by omega) (by omega) (ascii_of_all h3)).mono fun e w' ⟨he,hw⟩=>?_
    refine ⟨_,he,hw, ?_⟩
    simp only [zai,za9]
    refine ⟨_,rfl, ?_⟩
    simp only [trimS,trimLeftS,trimRightS,zv8]
  ·cases h
 ·cases h
end
open Go
open Go.RowKit (Below Hid)
open Go.Shelf Go.Lib Go.Proofs
noncomputable def delFn (ρ:Ren) (nm:String) (ta:Array TypeId):Func:={ Body2.n24 ρ with name:=nm,targs:=ta }
theorem zup (ρ:Ren)(nm:String)(ta:Array TypeId):(delFn ρ nm ta).ntmps=33:=by first | rfl | decide
structure DelP (P:Program)(ρ:Ren)(fid:FuncId)(nm:String)(ta:Array TypeId):Prop where
 mixed:P.follows .mixedOrders=true
 fn:P.funcs[fid]?=some (delFn ρ nm ta)
 t0:P.underlying (ρ.t 0)=some (TypeDesc.tuple #[])
 t3:P.underlying (ρ.t 3)=some (TypeDesc.int IntKind.i64)
 t4:P.underlying (ρ.t 4)=some (TypeDesc.bool)
 t24:P.underlying (ρ.t 24)=some (TypeDesc.slice (ρ.t 9))
 z24:∀ w,(Go.sizeOf (ρ.t 24)).run P w = .ok 1 w
 z3:∀ w,(Go.sizeOf (ρ.t 3)).run P w = .ok 1 w
 z4:∀ w,(Go.sizeOf (ρ.t 4)).run P w = .ok 1 w
 v24:∀ w,(zeroValue (ρ.t 24)).run P w = .ok (Value.slice none 0 0) w
 v9:∀ w,(zeroValue (ρ.t 9)).run P w = .ok zpr w
 i9:(P.info? (ρ.t 9)).map (fun i=>(i.zero,i.size,i.bytes))=some (some zpr,4,56)
section
variable {P:Program} {ρ:Ren} {fid:FuncId} {nm:String} {ta:Array TypeId}
theorem zxs (w:World)(t e ty:TypeId)(ht:P.underlying t=some (.slice e))(hv:∀ w,(zeroValue e).run P w = .ok zpr w)(b o n c:Nat)(hn:0 < n)
  (hc:∀ j,j < n * 4→(w.cell? ⟨b,o + j,none⟩).isSome=true) (hf:∀ j,w.frozen? ⟨b,j,none⟩=false) :
  (Builtin.clear_ #[t] ty #[.slice (some ⟨b,o,none⟩) n c]).run P w = .ok (.tuple #[]) (w.setCells b o (Builtin.zeroCells zpr.cells n).toList):=by
 have hl:(Builtin.zeroCells zpr.cells n).toList.length=n * 4:=by rw [Array.length_toList,size_zeroCells]; rfl
 have hst:=run_storeCells_cells (P:=P) b o (Builtin.zeroCells zpr.cells n).toList 0 w (by rw [hl]; simpa using hc) (fun j _=>hf _) (by
  intro v hv'
  simp only [Builtin.zeroCells,Array.toList_map,List.mem_map] at hv'
  obtain ⟨i,_,rfl⟩:=hv'
  have hm:i % zpr.cells.size < 4:=Nat.mod_lt _ (by decide)
  generalize i % zpr.cells.size=k at hm ⊢
  match k,hm with
  | 0,_=>rfl
  | 1,_=>rfl
  | 2,_=>rfl
  | 3,_=>rfl)
 simp only [Nat.add_zero] at hst
 obtain ⟨m,rfl⟩:∃ m,n=m + 1:=⟨n - 1,by omega⟩
 simp [Builtin.clear_,run_underlying ht,hv,hst]
set_option maxHeartbeats 4000000 in
set_option maxRecDepth 100000 in
theorem z4f (L:DelP P ρ fid nm ta)(blk off n cap i j:Nat)(cs:List Value)(w:World)(hij:i < j)(hj:j ≤ n)(hcap:n ≤ cap)(hcl:cs.length=n * 4)
  (hcs:∀ k v,cs[k]?=some v→w.cell? ⟨blk,off + k,none⟩=some v) (hfz:∀ q,w.frozen? ⟨blk,q,none⟩=false) (h1c:∀ v ∈ cs,v.oneCell'=true) :
  Calls P fid #[.slice (some ⟨blk,off,none⟩) n cap,.int .i64 i,.int .i64 j] w fun e w' =>
   e = .returned (.slice (some ⟨blk,off,none⟩) (i + (n - j)) cap)∧w'=(w.drew.setCells blk (off + i * 4) (cs.drop (j * 4))).setCells blk (off + (i + (n - j)) * 4) (Builtin.zeroCells zpr.cells (n - (i + (n - j)))).toList:=by
 have mixed:=L.mixed; have t0:=L.t0; have t3:=L.t3; have z3:=L.z3; have t4:=L.t4; have z4:=L.z4; have t24:=L.t24; have z24:=L.z24; have v24:=L.v24
 obtain ⟨i0,hi0,hz0,hz1,hz2⟩:=info_parts L.i9
 have z9:∀ w,(Go.sizeOf (ρ.t 9)).run P w = .ok 4 w:=fun w=>by simp [Go.sizeOf,typeInfo,hi0,hz1]
 obtain ⟨news,hnews⟩:∃ news,news=cs.drop (j * 4):=⟨_,rfl⟩
 have hlen:news.length=(n - j) * 4:=by rw [hnews,List.length_drop,hcl]; omega
 obtain ⟨A,hA,hsrc⟩:∃ A:Addr,(if cap=j then some (⟨blk,off,none⟩:Addr) else some ⟨blk,off + j * 4,none⟩)=some A∧Hid (∀ t u,news[t]?=some u→w.drew.cell? (A.add t)=some u):=by
  by_cases h:cap=j
  ·refine ⟨⟨blk,off,none⟩,by simp [h],fun t u hu=>?_⟩
   have h0:news.length=0:=by rw [hlen]; omega
   rw [List.length_eq_zero_iff.1 h0] at hu
   simp at hu
  ·refine ⟨⟨blk,off + j * 4,none⟩,by simp [h],fun t u hu=>?_⟩
   rw [hnews,List.getElem?_drop] at hu
   rw [Addr.add_lit,show off + j * 4 + t=off + (j * 4 + t) by omega]
   exact hcs _ _ hu
 have s1:Hid (news.length=(n - j) * 4):=hlen
 have s2:Hid (∀ u ∈ news,u.oneCell'=true):=fun u hu=>h1c u (by rw [hnews] at hu; exact List.mem_of_mem_drop hu)
 have hsome:∀ k,k < n * 4→(w.cell? ⟨blk,off + k,none⟩).isSome=true:=fun k hk=>by rw [hcs k _ (Qd (by omega))]; rfl
 have s3:Hid (∀ t,t < news.length→(w.drew.cell? ⟨blk,off + i * 4 + t,none⟩).isSome=true∧w.drew.frozen? ⟨blk,off + i * 4 + t,none⟩=false):=by
  intro t ht
  rw [hlen] at ht
  rw [Nat.add_assoc]
  exact ⟨hsome _ (by omega),hfz _⟩
 obtain ⟨W1,hW1⟩:∃ W1,W1=w.drew.setCells blk (off + i * 4) news:=⟨_,rfl⟩
 have hcl:∀ ty,(Builtin.clear_ #[ρ.t 24] ty #[.slice (some ⟨blk,off + (i + (n - j)) * 4,none⟩) (n - (i + (n - j))) (cap - (i + (n - j)))]).run P W1 = .ok (.tuple #[]) (W1.setCells blk (off + (i + (n - j)) * 4) (Builtin.zeroCells zpr.cells (n - (i + (n - j)))).toList) :=
  fun ty=>zxs W1 _ _ ty t24 L.v9 blk (off + (i + (n - j)) * 4) _ _ (by omega) (fun t ht=>by
   rw [hW1,Nat.add_assoc]
   exact isSome_setCells blk _ _ _ (fun t ht=>(s3.out t ht).1) _ (hsome _ (by omega))) (fun t=>by rw [hW1,World.frozen?_setCells]; exact hfz _)
 have hW:Hid (W1=w.drew.setCells blk (off + i * 4) news):=hW1
 have X:Aside (W1=w.drew.setCells blk (off + i * 4) news):=hW1
 have hic:i ≤ cap:=by omega
 have hjc:j ≤ cap:=by omega
 clear hW1 hcs hfz hsome
 rw [← hnews]
 clear hnews hlen
 go_enter L.fn,zup ρ
 go_wp2_with fail
 go_region_law_o (refine step_append_room rfl (.tmp 22) (.tmp 25) (ρ.t 24) rfl (ρ.t 9) i0 4 t24 hi0 hz1 blk off i cap (by simp [Act.eval,Act.put]) A (n - j) (cap - j) news (by simp [Act.eval,Act.put]) s1.out hsrc.out s2.out (by omega) s3.out ?_; rw [← hW.out])
 go_wp2
 go_ret
 exact ⟨rfl,by rw [X.out]; rfl⟩
theorem zs8 {b o:Nat}{us vs:List Value}{w:World}(h:zbu w b o us)(k:zbu w b (o + us.length) vs):zbu w b o (us++vs):=fun q u hq=>by
 by_cases hlt:q < us.length
 ·rw [List.getElem?_append_left hlt] at hq
  exact h q u hq
 ·rw [List.getElem?_append_right (by omega)] at hq
  have:=k (q - us.length) u hq
  rwa [show o + us.length + (q - us.length)=o + q by omega] at this
def zn5:List V→List (Option Obj)→Option (V × List (Option Obj))
 | [.arr 0 ver 0 len,.d (.i .i64 i),.d (.i .i64 j)],[some (.arr ver' 4 xs)] =>
  if ver=ver'∧len=xs.length∧0 ≤ i∧i < j∧j ≤ len∧len ≤ 1000000 then match zhp xs with
   | some ds=>some (.arr 0 (ver + 1) 0 (i.toNat + (len - j.toNat)),[some (.arr (ver + 1) 4 ((ds.take i.toNat++ds.drop j.toNat).map ofDs))])
   | none=>none
  else none
 | _,_=>none
variable {tab:Tab}
theorem z0a (L:DelP P ρ fid nm ta):zv5 P tab fid zn5:=by
 intro args hp r hp' h g w vs hH hvs
 unfold zn5 at h
 split at h
 ·rename_i ver len i j ver' xs
  split at h
  ·rename_i hcond
   obtain ⟨hver,hlen,hi0,hij,hjn,hbig⟩:=hcond
   subst hver
   split at h
   ·rename_i ds hds
    simp only [Qa,Qj] at h
    obtain ⟨rfl,rfl⟩:=h
    obtain ⟨i,rfl⟩:∃ k:Nat,i=k:=⟨i.toNat,by omega⟩
    obtain ⟨j,rfl⟩:∃ k:Nat,j=k:=⟨j.toNat,by omega⟩
    rw [Qk,Qk]
    have hij:i < j:=by omega
    have hjn:j ≤ len:=by omega
    match vs,hvs with
    | [v1,v2,v3],hvs =>
     simp only [zah] at hvs
     obtain ⟨hv1,hv2,hv3,_⟩:=hvs
     have ho:zax [some (Obj.arr ver 4 xs)] 0=some (.arr ver 4 xs):=rfl
     simp only [zai] at hv1
     obtain ⟨⟨A0,c0,hA0,hc0⟩,ver1,sz1,xs1,h1,h2,h3⟩:=hv1
     rw [ho] at h1
     simp only [Qa,Obj.arr.injEq] at h1
     obtain ⟨rfl,rfl,rfl⟩:=h1
     obtain ⟨_,A,c,rfl,hA⟩:=h3 rfl
     simp only [Value.slice.injEq] at hA0
     obtain ⟨rfl,_,rfl⟩:=hA0
     simp only [zai,za9] at hv2 hv3
     subst hv2
     subst hv3
     rcases hA with hA | ⟨rfl,hA⟩
     ·omega
     obtain ⟨k1,k2,k4,k5⟩:=hH.ob 0 _ ho
     obtain ⟨cs,m1,m2⟩:=zli xs ds _ k5 k1 hds
     obtain ⟨l1,l2⟩:=zf5 hds k1
     have hcl:cs.length=len * 4:=by rw [m1.length,zbf l2,l1,hlen]
     have hown:∀ q,q < (g.at_ 0).cnt→zbd g (zax [some (Obj.arr ver 4 xs)]) 0 (g.at_ 0).blk ((g.at_ 0).lo + q):=fun q hq=>by
      unfold zbd; rw [ho]; exact ⟨rfl,by omega,by omega⟩
     rw [Nat.zero_mul,Nat.add_zero] at *
     rw [Nat.zero_add] at hA
     have hfz:∀ q,w.frozen? ⟨(g.at_ 0).blk,q,none⟩=false:=hH.frz 0 _ _ (hown 0 (by omega)) (fun kvs=>by rw [ho]; simp)
     refine (z4f L _ _ len c i j cs w hij hjn hc0 hcl (fun k v hk=>m2 k v hk) hfz m1.ones).mono fun e w' hw=>?_
     obtain ⟨rfl,rfl⟩:=hw
     have hzl:(Builtin.zeroCells zpr.cells (len - (i + (len - j)))).toList.length=(len - (i + (len - j))) * 4:=by rw [Array.length_toList,size_zeroCells]; rfl
     have hdl:(cs.drop (j * 4)).length=(len - j) * 4:=by rw [List.length_drop,hcl]; omega
     generalize hZ:(Builtin.zeroCells zpr.cells (len - (i + (len - j)))).toList=Z at hzl ⊢
     obtain ⟨q1,q2,q3,q4⟩:=zb7 (g.at_ 0).blk (cs.drop (j * 4)) ((g.at_ 0).lo + i * 4) w.drew
     obtain ⟨r1,r2,r3,r4⟩:=zb7 (g.at_ 0).blk Z ((g.at_ 0).lo + (i + (len - j)) * 4) (w.drew.setCells (g.at_ 0).blk ((g.at_ 0).lo + i * 4) (cs.drop (j * 4)))
     have hsp:∀ k,k < (g.at_ 0).cnt→(w.drew.cell? ⟨(g.at_ 0).blk,(g.at_ 0).lo + k,none⟩).isSome=true:=fun k hk=>k4 k hk
     have hsp1:∀ k,k < (g.at_ 0).cnt→((w.drew.setCells (g.at_ 0).blk ((g.at_ 0).lo + i * 4) (cs.drop (j * 4))).cell? ⟨(g.at_ 0).blk,(g.at_ 0).lo + k,none⟩).isSome=true:=fun k hk =>
      isSome_setCells _ _ _ _ (fun t ht=>by rw [Nat.add_assoc]; exact hsp _ (by omega)) _ (hsp k hk)
     have hblk:∀ b,zbn (zbd g (zax [some (Obj.arr ver 4 xs)]) 0 b) w.heap[b]? ((w.drew.setCells (g.at_ 0).blk ((g.at_ 0).lo + i * 4) (cs.drop (j * 4))).setCells (g.at_ 0).blk ((g.at_ 0).lo + (i + (len - j)) * 4) Z).heap[b]?:=fun b=>by
      refine ((za7 _ b (cs.drop (j * 4)) _ w.drew).mono fun q ⟨n1,n2,n3⟩=>?_).trans ((za7 _ b Z _ _).mono fun q ⟨n1,n2,n3⟩=>?_)
      ·subst n1
       have:=hown (q - (g.at_ 0).lo) (by omega)
       rwa [show (g.at_ 0).lo + (q - (g.at_ 0).lo)=q by omega] at this
      ·subst n1
       have:=hown (q - (g.at_ 0).lo) (by omega)
       rwa [show (g.at_ 0).lo + (q - (g.at_ 0).lo)=q by omega] at this
     have hown':∀ (xs':List (List V)) b q,zbd ⟨zdc g.at_ 0 (g.at_ 0),g.im⟩ (zb2 (zax [some (Obj.arr ver 4 xs)]) 0 (some (.arr (ver + 1) 4 xs'))) 0 b q→zbd g (zax [some (Obj.arr ver 4 xs)]) 0 b q:=fun xs' b q h=>by
      unfold zbd at h ⊢
      simp only [zao,zav] at h
      rw [ho]
      exact h
     have hrows:∀ r ∈ ds.take i++ds.drop j,r.length=4:=fun r hr=>by
      rcases List.mem_append.1 hr with hr | hr
      ·exact l2 r (List.mem_of_mem_take hr)
      ·exact l2 r (List.mem_of_mem_drop hr)
     have hrl:(ds.take i++ds.drop j).length=i + (len - j):=by simp; omega
     have hflat:zaq tab g.im w (ds.take i++ds.drop j).flatten (cs.take (i * 4)++cs.drop (j * 4)):=by
      rw [List.flatten_append,zgg ds i l2,zgh ds j l2]
      exact (m1.take _).append (m1.drop _)
     have htl:(cs.take (i * 4)).length=i * 4:=by rw [List.length_take]; omega
     have hold:zbu ((w.drew.setCells (g.at_ 0).blk ((g.at_ 0).lo + i * 4) (cs.drop (j * 4))).setCells (g.at_ 0).blk ((g.at_ 0).lo + (i + (len - j)) * 4) Z) (g.at_ 0).blk (g.at_ 0).lo (cs.take (i * 4)++cs.drop (j * 4)):=by
      refine zs8 (fun q u hq=>?_) (fun q u hq=>?_)
      ·have hq':q < i * 4:=by
        rcases Qn q (cs.take (i * 4)).length with h | h
        ·omega
        ·rw [Qe h] at hq; cases hq
       rw [List.getElem?_take,if_pos hq'] at hq
       rw [World.cell?_setCells_out _ _ _ _ _ (fun _ _=>by show (g.at_ 0).lo + q < (g.at_ 0).lo + (i + (len - j)) * 4 ∨ _; omega),World.cell?_setCells_out _ _ _ _ _ (fun _ _=>by show (g.at_ 0).lo + q < (g.at_ 0).lo + i * 4 ∨ _; omega)]
       exact m2 q u hq
      ·rw [htl]
       have hq':q < (len - j) * 4:=by
        rcases Qn q (cs.drop (j * 4)).length with h | h
        ·omega
        ·rw [Qe h] at hq; cases hq
       rw [World.cell?_setCells_out _ _ _ _ _ (fun _ _=>by show (g.at_ 0).lo + i * 4 + q < (g.at_ 0).lo + (i + (len - j)) * 4 ∨ _; omega)]
       exact zbt (b:=(g.at_ 0).blk) (o:=(g.at_ 0).lo + i * 4) (vs:=cs.drop (j * 4)) (w:=w.drew) (fun k hk=>by have:=hsp (i * 4 + k) (by omega); rwa [← Nat.add_assoc] at this) q u hq
     generalize hW:(w.drew.setCells (g.at_ 0).blk ((g.at_ 0).lo + i * 4) (cs.drop (j * 4))).setCells (g.at_ 0).blk ((g.at_ 0).lo + (i + (len - j)) * 4) Z=W at *
     have hfzW:∀ q,W.frozen? ⟨(g.at_ 0).blk,q,none⟩=false:=fun q=>by
      rw [← hW,World.frozen?_setCells,World.frozen?_setCells]; exact hfz q
     have hspW:∀ k,k < (g.at_ 0).cnt→(W.cell? ⟨(g.at_ 0).blk,(g.at_ 0).lo + k,none⟩).isSome=true:=fun k hk=>by
      rw [← hW]
      exact isSome_setCells _ _ _ _ (fun t ht=>by rw [Nat.add_assoc]; exact hsp1 _ (by omega)) _ (hsp1 k hk)
     obtain ⟨s1,s2,s3⟩:=zfw (w':=W) hH 0 (.arr (ver + 1) 4 ((ds.take i++ds.drop j).map ofDs)) (g.at_ 0) g.im (r1.trans q1) (r2.trans q2) (r3.trans q3) (by rw [r4,q4]; exact Nat.le_refl _) (fun b _=>hblk b) (fun _ _ h=>h) (fun _ _ h=>.inl h)
      (fun b q h=>⟨.inl (hown' _ b q h),hH.imm 0 b q (hown' _ b q h)⟩)
      (fun b q h _=>by
       have:=hown' _ b q h
       unfold zbd at this
       rw [ho] at this
       obtain ⟨rfl,_⟩:=this
       exact hfzW)
      (by
       intro k
       by_cases e:k=0
       ·subst e; rw [ho]
        exact ⟨_,_,zao _ _ _,Nat.le_succ _,fun e=>by omega⟩
       ·have:=zia.refl g (zax [some (Obj.arr ver 4 xs)]) k
        rw [zcq _ _ e,show (⟨zdc g.at_ 0 (g.at_ 0),g.im⟩:Gh).at_ k=g.at_ k from zd4 _ _ e]
        exact this)
      (fun hv=>by
       refine ⟨fun r hr=>?_,by rw [Qf,hrl]; omega,fun q hq=>hspW q hq,fun i' r q x hi hq=>?_⟩
       ·obtain ⟨r0,h0,rfl⟩:=List.mem_map.1 hr
        simp [ofDs,hrows r0 h0]
       ·rw [List.getElem?_map] at hi
        obtain ⟨r0,h0,rfl⟩:=Option.map_eq_some_iff.1 hi
        simp only [ofDs,List.getElem?_map] at hq
        obtain ⟨d,hd,rfl⟩:=Option.map_eq_some_iff.1 hq
        obtain ⟨u,n1,n2⟩:=hflat.get' (zjn _ i' q r0 d hrows h0 hd)
        refine ⟨u, ?_,hv (.d d) u (by simp only [zai]; exact n2),n2.one⟩
        have:=hold _ u n1
        rwa [← Nat.add_assoc] at this)
     rw [← zn3] at s1 s2
     refine ⟨_,_,rfl,s1,s2, ?_⟩
     simp only [zai]
     refine ⟨⟨_,_,rfl,by omega⟩,ver + 1,4,_,by rw [zn3 (o:=Obj.arr ver 4 xs),zao],Nat.le_refl _,fun _=>⟨by rw [Qf,hrl]; omega,_,_,rfl,.inr ⟨?_, ?_⟩⟩⟩
     ·simp [zav]
     ·simp only [zav]; omega
   ·cases h
  ·cases h
 ·cases h
end
end Ab
