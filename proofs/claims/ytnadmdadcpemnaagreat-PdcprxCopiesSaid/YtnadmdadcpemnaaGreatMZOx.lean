import Derived.Test.YtnadmdadcpemnaaGreatMZMx
import Derived.Test.YtnadmdadcpemnaaGreatMTBx
import Derived.Laws.StructEq
import Derived.ChangeKeysEq
import Derived.ProofKit
import Derived.OpenShut
import Derived.ChangeOld
import Derived.Deep.Fields
namespace Go.Proofs.YtnadmdadcpemnaaGreat
open Go.RowKit
set_option linter.unusedVariables false
attribute [local go_sem ↓] Go.wp_at_zero Go.wp_at_succ
theorem cells5:Tryz.prog.cellsOf 5 = 1:=by kernel_rfl
theorem k_part (f:Nat→Int) (i:Nat) (hi:i < 16) (w:World):(part 5 (kArr f) (i*1)).run Tryz.prog w=.ok (.int .u8 (f i)) w:=by
 obtain⟨q,hq,_,hqs,_⟩:=info_parts Tryz.infoByte
 have h:=kArr_at f i hi
 simp[part,Sem.run_bind,sizeOf,typeInfo,hq,hqs,h]
end Go.Proofs.YtnadmdadcpemnaaGreat
namespace Go.Proofs.YtnadmdadcpemnaaGreat
open Go.ChangeShapes Go.WideShapes Go.ChangeAt Go.RowKit
def valInt:Option Value→Int
 | some (.int _ a)=>a
 | _=>0
section
variable {H:Type} {enc:TypeId×Value→H} {w:World} {base:Nat} {spare:Nat→Bool} {held:Bool}
theorem open_b16 {fuel:Nat} {L:List Value} {x:DataW H×List MemPlace} (h:DataW.trod enc Tryz.prog w base spare held fuel 23 L=some x) :
  ∃f:Nat→Int,(∀j,j < 16→L[j]? = some (.int .u8 (f j)))∧∀j,j < 16→0≤f j∧f j < 256:=by
 obtain⟨xs,m,_,_,_,hx,hel⟩:=DataW.trod_array Tryz.underlying23 h
 have c5:Tryz.prog.cellsOf 5 = 1:=by kernel_rfl
 have key:∀j,j < 16→∃a,L[j]? = some (.int .u8 a)∧0≤a∧a < 256:=fun j hj=>by
  have h1:=hel j hj
  rw[c5,Nat.mul_one,List.getElem?_eq_getElem (by omega)]at h1
  obtain⟨a,e,_,hw⟩:=DataW.trod_int Tryz.underlying5 h1
  have h2:=congrArg List.head? e
  simp[List.head?_take]at h2
  have hb:=bounds_u8 hw
  exact⟨a,h2,hb.1,by omega⟩
 refine⟨fun j=>valInt L[j]?,fun j hj=>?_,fun j hj=>?_⟩
 ·obtain⟨a,e,_⟩:=key j hj
  simp only[e,valInt]
 ·obtain⟨a,e,hb⟩:=key j hj
  simp only[e,valInt]
  exact hb
set_option maxRecDepth 100000 in
theorem open_cfg {r:Reach} {b0:Nat} {v:Value} {d:DataW H} {p:List MemPlace}
  (hv:Value.okWide Tryz.prog w r b0 25 v) (h:DataW.Trod enc Tryz.prog w base spare held 25 v d p):∃c:Cfg,v=.agg c.arr∧c.Ok:=by
 obtain⟨cs,rfl,hsz⟩:=okWide_struct Tryz.underlying25 hv
 have hc:Tryz.prog.cellsOf 25 = 39:=by kernel_rfl
 have h9:cs.size=39:=hsz.trans hc
 obtain⟨fuel,hf⟩:=h
 obtain⟨xs,n,_,_,_,hlen,hg⟩:=DataW.trod_struct Tryz.underlying25 hf
 have c3:Tryz.prog.cellsOf 3 = 1:=by kernel_rfl
 have c22:Tryz.prog.cellsOf 22 = 1:=by kernel_rfl
 have c4:Tryz.prog.cellsOf 4 = 1:=by kernel_rfl
 have c16:Tryz.prog.cellsOf 23 = 16:=by kernel_rfl
 have hx9:xs.length=9:=hlen
 have keyi:∀(i o:Nat) (ty:TypeId),Tryz.prog.underlying ty=some (.int .i64)→i < 9→DataW.trod enc Tryz.prog w base spare held n ty (List.take 1 (List.drop o (Value.agg cs).cells.toList))=xs[i]?→∃a,cs[o]? = some (Value.int .i64 a):=by
  intro i o ty hu hi h1
  rw[List.getElem?_eq_getElem (by omega)]at h1
  obtain⟨a,e,_,_⟩:=DataW.trod_int hu h1
  refine⟨a,?_⟩
  have h2:=congrArg List.head? e
  simp[Value.cells,List.head?_take]at h2
  exact h2
 have keyb:∀(i o:Nat),i < 9→DataW.trod enc Tryz.prog w base spare held n 4 (List.take 1 (List.drop o (Value.agg cs).cells.toList))=xs[i]?→∃a,cs[o]? = some (Value.bool a):=by
  intro i o hi h1
  rw[List.getElem?_eq_getElem (by omega)]at h1
  obtain⟨a,e,_⟩:=DataW.trod_bool Tryz.underlying4 h1
  refine⟨a,?_⟩
  have h2:=congrArg List.head? e
  simp[Value.cells,List.head?_take]at h2
  exact h2
 have keya:∀(i o:Nat),i < 9→DataW.trod enc Tryz.prog w base spare held n 23 (List.take 16 (List.drop o (Value.agg cs).cells.toList))=xs[i]?→∃f:Nat→Int,(∀j,j < 16→cs[o+j]? = some (.int .u8 (f j)))∧∀j,j < 16→0≤f j∧f j < 256:=by
  intro i o hi h1
  rw[List.getElem?_eq_getElem (by omega)]at h1
  obtain⟨f,e,hb⟩:=open_b16 h1
  refine⟨f,fun j hj=>?_,hb⟩
  have:=e j hj
  rw[List.getElem?_take,if_pos hj,List.getElem?_drop]at this
  simpa[Value.cells]using this
 obtain⟨a0,e0⟩:=keyi 0 0 3 Tryz.underlying3 (by decide) (by have h1:DataW.trod enc Tryz.prog w base spare held n 3 (List.take (Tryz.prog.cellsOf 3) (List.drop 0 (Value.agg cs).cells.toList))=xs[0]?:=hg 0 _ rfl;rwa [c3]at h1)
 obtain⟨a1,e1⟩:=keyi 1 1 22 Tryz.underlying22 (by decide) (by have h1:DataW.trod enc Tryz.prog w base spare held n 22 (List.take (Tryz.prog.cellsOf 22) (List.drop 1 (Value.agg cs).cells.toList))=xs[1]?:=hg 1 _ rfl;rwa [c22]at h1)
 obtain⟨a2,e2,r2⟩:=keya 2 2 (by decide) (by have h1:DataW.trod enc Tryz.prog w base spare held n 23 (List.take (Tryz.prog.cellsOf 23) (List.drop 2 (Value.agg cs).cells.toList))=xs[2]?:=hg 2 _ rfl;rwa [c16]at h1)
 obtain⟨a3,e3,r3⟩:=keya 3 18 (by decide) (by have h1:DataW.trod enc Tryz.prog w base spare held n 23 (List.take (Tryz.prog.cellsOf 23) (List.drop 18 (Value.agg cs).cells.toList))=xs[3]?:=hg 3 _ rfl;rwa [c16]at h1)
 obtain⟨a4,e4⟩:=keyb 4 34 (by decide) (by have h1:DataW.trod enc Tryz.prog w base spare held n 4 (List.take (Tryz.prog.cellsOf 4) (List.drop 34 (Value.agg cs).cells.toList))=xs[4]?:=hg 4 _ rfl;rwa [c4]at h1)
 obtain⟨a5,e5⟩:=keyb 5 35 (by decide) (by have h1:DataW.trod enc Tryz.prog w base spare held n 4 (List.take (Tryz.prog.cellsOf 4) (List.drop 35 (Value.agg cs).cells.toList))=xs[5]?:=hg 5 _ rfl;rwa [c4]at h1)
 obtain⟨a6,e6⟩:=keyb 6 36 (by decide) (by have h1:DataW.trod enc Tryz.prog w base spare held n 4 (List.take (Tryz.prog.cellsOf 4) (List.drop 36 (Value.agg cs).cells.toList))=xs[6]?:=hg 6 _ rfl;rwa [c4]at h1)
 obtain⟨a7,e7⟩:=keyi 7 37 3 Tryz.underlying3 (by decide) (by have h1:DataW.trod enc Tryz.prog w base spare held n 3 (List.take (Tryz.prog.cellsOf 3) (List.drop 37 (Value.agg cs).cells.toList))=xs[7]?:=hg 7 _ rfl;rwa [c3]at h1)
 obtain⟨a8,e8⟩:=keyi 8 38 3 Tryz.underlying3 (by decide) (by have h1:DataW.trod enc Tryz.prog w base spare held n 3 (List.take (Tryz.prog.cellsOf 3) (List.drop 38 (Value.agg cs).cells.toList))=xs[8]?:=hg 8 _ rfl;rwa [c3]at h1)
 obtain⟨c,hcd⟩:∃c:Cfg,c=⟨a0,a1,a2,a3,a4,a5,a6,a7,a8⟩:=⟨_,rfl⟩
 refine⟨c,?_,by rw[hcd];exact⟨r2,r3⟩⟩
 have:cs=c.arr:=by
  apply Array.ext_getElem?
  intro i
  by_cases hi:i < 39
  ·rw[c.arr_at hi,hcd]
   unfold Cfg.cell
   rcases (by omega:i=0∨i=1∨(2≤i∧i < 18)∨(18≤i∧i < 34)∨i=34∨i=35∨i=36∨i=37∨i=38)with rfl | rfl | h | h | rfl | rfl | rfl | rfl | rfl
   ·exact e0
   ·exact e1
   ·rw[if_neg (by omega),if_neg (by omega),if_pos (by omega)]
    have:=e2 (i-2) (by omega)
    rwa [show 2+(i-2)=i by omega]at this
   ·rw[if_neg (by omega),if_neg (by omega),if_neg (by omega),if_pos (by omega)]
    have:=e3 (i-18) (by omega)
    rwa [show 18+(i-18)=i by omega]at this
   ·exact e4
   ·exact e5
   ·exact e6
   ·exact e7
   ·exact e8
  ·rw[Array.getElem?_eq_none (by omega),Array.getElem?_eq_none (by rw[c.arr_size];omega)]
 rw[this]
end
end Go.Proofs.YtnadmdadcpemnaaGreat
namespace Go.Proofs.YtnadmdadcpemnaaGreat
open Go.RowKit
set_option linter.unusedVariables false
attribute [local go_sem ↓] Go.wp_at_zero Go.wp_at_succ
theorem Cfg.setCm_arr (c:Cfg) (x:Bool):c.arr.setIfInBounds 35 (.bool x)=({ c with cm:=x }:Cfg).arr:=by
 apply Array.ext_getElem?
 intro j
 rw[Array.getElem?_setIfInBounds,c.arr_size]
 by_cases hj:j < 39
 ·rw[({ c with cm:=x }:Cfg).arr_at hj]
  by_cases e:35=j
  ·subst e;rw[if_pos rfl,if_pos (by omega)];rfl
  ·rw[if_neg e,c.arr_at hj]
   unfold Cfg.cell
   by_cases h0:j=0
   ·simp[h0]
   by_cases h1:j=1
   ·simp[h1]
   by_cases h2:j < 18
   ·simp[h0,h1,h2]
   by_cases h3:j < 34
   ·simp[h0,h1,h2,h3]
   by_cases h4:j=34
   ·simp[h4]
   by_cases h5:j=35
   ·exact absurd h5.symm e
   by_cases h6:j=36
   ·simp[h6]
   by_cases h7:j=37
   ·simp[h7]
   ·simp[h0,h1,h2,h3,h4,h5,h6,h7]
 ·rw[if_neg (by omega),Array.getElem?_eq_none (by rw[c.arr_size];omega),Array.getElem?_eq_none (by rw[Cfg.arr_size];omega)]
def Cfg.noK (c:Cfg):Cfg:={ c with cm:=false }
theorem Cfg.noK_arr (c:Cfg):c.arr.setIfInBounds 35 (.bool false)=c.noK.arr:=c.setCm_arr false
set_option maxRecDepth 100000 in
set_option maxHeartbeats 1600000 in
theorem plain46_ok (c:Cfg) (w:World):Calls Tryz.prog 7 #[.agg c.arr] w fun e w'=>e=.returned (.agg c.noK.arr)∧Below w.heap.size w w':=by
 have HP:=Lib.hid c.noK_arr
 have HS:Hid ((Tryz.prog.info? 25).map (·.size)=some c.noK.arr.size):=Lib.hid (by rw[c.noK.arr_size];exact infoPd)
 have HO:=Lib.hid c.noK.arr_one
 have HZS:Hid (Cfg.zero.arr.size=c.noK.arr.size):=Lib.hid (by rw[Cfg.arr_size,Cfg.arr_size])
 have c35:=c.arr_at (j:=35) (by decide)
 obtain⟨Z,hZ⟩:∃Z,Z=c.arr:=⟨_,rfl⟩
 obtain⟨Y,hY⟩:∃Y,Y=c.noK.arr:=⟨_,rfl⟩
 rw[←hZ]at HP c35 ⊢
 rw[←hY]at HP HS HO HZS ⊢
 have HC35:=Lib.hid c35
 have HU:=Lib.hid Tryz.underlying25
 clear hZ hY c35
 go_enter Tryz.func7,Tryz.ntmps7
 go_upto_region 1 with (fail)
 obtain⟨g,hg⟩:∃g,g=w.heap.size:=⟨_,rfl⟩
 refine wp_let (fun W=>Blk W g 25 Z∧Blk W (g+1) 25 Cfg.zero.arr∧Below w.heap.size w W) ⟨by rw[hg];exact(Blk.new _ _ _).alloc _,by rw[cf0_lit,hg];exact blk_atZ _ _ _ _ (by simp),((Below.refl _ w).alloc (Nat.le_refl _) _).alloc (by simp) _⟩ ?_
 rintro W1 ⟨b1,b2,b3⟩
 have B1:=Lib.hid b1
 have B2:=Lib.hid b2
 have B3:=Lib.hid b3
 have HG:=Lib.hid hg
 rw[←hg]
 have c35:W1.cell? ⟨g,35,none⟩=some (c.cell 35):=(b1.cell 35).trans HC35.out
 have f35:=b1.frozen 35
 clear b1 b2 b3 hg
 go_upto_region 2 with (fail)
 refine wp_let (fun W=>Blk W g 25 Y∧Blk W (g+1) 25 Cfg.zero.arr∧Below w.heap.size w W) ⟨by rw[←HP.out];exact B1.out.set_ 35 _,B2.out.far (p:=⟨g,35,none⟩) (by show ¬g+1=g;omega) _,B3.out.setCell (p:=⟨g,35,none⟩) (by rw[HG.out];exact Nat.le_refl _) _⟩ ?_
 rintro W2 ⟨b1,b2,b3⟩
 have D1:=Lib.hid b1
 have D2:=Lib.hid b2
 have D3:=Lib.hid b3
 clear b1 b2 b3 c35 f35
 go_wp2_with (first
  | (refine wpList_load_row rfl _ _ rfl g rfl 25 Y (0,0) _ D1.out HU.out rfl HS.out ?_)
  | (refine wpList_store_row rfl _ _ _ rfl (g+1) Y rfl rfl 25 _ D2.out HS.out HZS.out HO.out ?_))
 refine bodyPost_ret (v:=.agg Y) (results_cell_row (g:=g+1) (t:=25) (fr:=(0,0)) Tryz.results7 _ _ Y _ rfl (setRow_heap _ _ _ Y 25 (0,0) D2.out) HU.out rfl HS.out) rfl ⟨rfl,?_⟩
 exact belowRow D3.out (by rw[HG.out];omega) _
end Go.Proofs.YtnadmdadcpemnaaGreat
