import Derived.Test.YtnadmdadcpemnaaGreatMZMq
import Derived.Test.YtnadmdadcpemnaaGreatMTBq
import Derived.Test.YtnadmdadcpemnaaGreatTAq
import Derived.Laws.StructEq
import Derived.ChangeKeysEq
import Derived.ProofKit
import Derived.OpenShut
import Derived.ChangeOld
import Derived.Deep.Fields
import Derived.Deep.SlicePairs
set_option maxRecDepth 100000
set_option maxHeartbeats 4000000
namespace Go.Proofs.YtnadmdadcpemnaaGreat
set_option linter.unusedVariables false
set_option linter.unusedSimpArgs false
open Go.RowKit
attribute [local go_sem ↓] Go.wp_at_zero Go.wp_at_succ
theorem rvalid45_ok (c:Cfg) (w:World):Calls Tryz.prog 8 #[.agg c.arr] w fun e w'=>e=.returned (.bool (decide c.Valid))/\Below w.heap.size w w':=by
 have h0:c.arr[0]? = some (.int .i64 c.b):=c.arr_at (by decide);have h1:c.arr[1]? = some (.int .i64 c.d):=c.arr_at (by decide);have h2:c.arr[37]? = some (.int .i64 c.ds):=c.arr_at (by decide);have h3:c.arr[38]? = some (.int .i64 c.ro):=c.arr_at (by decide);have HV:=Lib.hid (show c.Valid↔(0<=c.b/\c.b<=31/\(c.d=0\/c.d=1)/\0<=c.ds/\c.ds<=1073741824/\0<=c.ro/\c.ro<=1073741824)from Iff.rfl);obtain⟨V,hV⟩:∃V,V=decide c.Valid:=⟨_,rfl⟩
 have HD:=Lib.hid (show V=true↔c.Valid from by rw[hV];exact decide_eq_true_iff);obtain⟨Z,hZ⟩:∃Z,Z=c.arr:=⟨_,rfl⟩
 rw[<-hV];rw[<-hZ]at h0 h1 h2 h3 ⊢;obtain⟨b,hb⟩:∃b,b=c.b:=⟨_,rfl⟩
 obtain⟨d,hd⟩:∃d,d=c.d:=⟨_,rfl⟩
 obtain⟨ds,hds⟩:∃ds,ds=c.ds:=⟨_,rfl⟩
 obtain⟨ro,hro⟩:∃ro,ro=c.ro:=⟨_,rfl⟩
 rw[<-hb]at h0 HV;rw[<-hd]at h1 HV;rw[<-hds]at h2 HV;rw[<-hro]at h3 HV;clear hZ hV hb hd hds hro;go_enter Tryz.func8,Tryz.ntmps8;go_upto_region 1 with (fail)
 refine wp_let (fun W=>Blk W w.heap.size 25 Z/\Below w.heap.size w W) ⟨Blk.new _ _ _,(Below.refl _ w).alloc (Nat.le_refl _) _⟩ ?_;rintro W1 ⟨b1,b2⟩;have x0:=(b1.cell 0).trans h0;have x1:=(b1.cell 1).trans h1;have x2:=(b1.cell 37).trans h2;have x3:=(b1.cell 38).trans h3;have HB:=Lib.hid b2;clear b1 b2 h0 h1 h2 h3;have hout:∀r:Bool,(r=true↔(0<=b/\b<=31/\(d=0\/d=1)/\0<=ds/\ds<=1073741824/\0<=ro/\ro<=1073741824))->r=V:=fun r hr=>by
  rw[Bool.eq_iff_iff,hr,HD.out,HV.out]
 have HO:=Lib.hid hout;clear hout;by_cases c0:0<=b;rotate_left
 ·go_wp2;go_ret
  exact⟨ret_bool (HO.out _ ⟨fun h=>(by cases h),fun h=>(by omega)⟩),HB.out⟩
 by_cases c1:b<=31;rotate_left
 ·go_wp2;go_ret
  exact⟨ret_bool (HO.out _ ⟨fun h=>(by cases h),fun h=>(by omega)⟩),HB.out⟩
 by_cases c2:d=0\/d=1;rotate_left
 ·have d0:(d == 0)=false:=by simp;exact fun h=>c2 (.inl h)
  have d1:(d == 1)=false:=by simp;exact fun h=>c2 (.inr h)
  have HC2:=Lib.hid c2;clear c2;go_wp2;go_ret
  exact⟨ret_bool (HO.out _ ⟨fun h=>(by cases h),fun h=>(absurd h.2.2.1 HC2.out)⟩),HB.out⟩
 by_cases c3:0<=ds;rotate_left
 ·rcases c2 with rfl | rfl
  ·go_wp2;go_ret
   exact⟨ret_bool (HO.out _ ⟨fun h=>(by cases h),fun h=>(by omega)⟩),HB.out⟩
  ·go_wp2;go_ret
   exact⟨ret_bool (HO.out _ ⟨fun h=>(by cases h),fun h=>(by omega)⟩),HB.out⟩
 by_cases c4:ds<=1073741824;rotate_left
 ·rcases c2 with rfl | rfl
  ·go_wp2;go_ret
   exact⟨ret_bool (HO.out _ ⟨fun h=>(by cases h),fun h=>(by omega)⟩),HB.out⟩
  ·go_wp2;go_ret
   exact⟨ret_bool (HO.out _ ⟨fun h=>(by cases h),fun h=>(by omega)⟩),HB.out⟩
 by_cases c5:0<=ro;rotate_left
 ·rcases c2 with rfl | rfl
  ·go_wp2;go_ret
   exact⟨ret_bool (HO.out _ ⟨fun h=>(by cases h),fun h=>(by omega)⟩),HB.out⟩
  ·go_wp2;go_ret
   exact⟨ret_bool (HO.out _ ⟨fun h=>(by cases h),fun h=>(by omega)⟩),HB.out⟩
 by_cases c6:ro<=1073741824
 ·rcases c2 with rfl | rfl
  ·go_wp2;go_ret
   exact⟨ret_bool (HO.out _ ⟨fun h=>⟨by omega,by omega,by simp,by omega,by omega,by omega,by omega⟩,fun h=>rfl⟩),HB.out⟩
  ·go_wp2;go_ret
   exact⟨ret_bool (HO.out _ ⟨fun h=>⟨by omega,by omega,by simp,by omega,by omega,by omega,by omega⟩,fun h=>rfl⟩),HB.out⟩
 ·rcases c2 with rfl | rfl
  ·go_wp2;go_ret
   exact⟨ret_bool (HO.out _ ⟨fun h=>(by cases h),fun h=>(by omega)⟩),HB.out⟩
  ·go_wp2;go_ret
   exact⟨ret_bool (HO.out _ ⟨fun h=>(by cases h),fun h=>(by omega)⟩),HB.out⟩
theorem cells5:Tryz.prog.cellsOf 5 = 1:=by kernel_rfl
theorem k_part (f:Nat->Int) (i:Nat) (hi:i < 16) (w:World):(part 5 (kArr f) (i*1)).run Tryz.prog w=.ok (.int .u8 (f i)) w:=by
 obtain⟨q,hq,_,hqs,_⟩:=info_parts Tryz.infoByte;have h:=kArr_at f i hi;simp[part,Sem.run_bind,sizeOf,typeInfo,hq,hqs,h]
theorem k_items (f:Nat->Int) (d:Nat):∀(is:List Nat) (_:∀i,i∈is->i < 16) (w:World),(Op.eqItems (d+1) 5 1 (kArr f) (kArr f) is).run Tryz.prog w=.ok true w
 | [],_,w=>by simp[Op.eqItems]
 | i :: is,h,w=>by
  simp only[Op.eqItems,Sem.run_bind,k_part f i (h i (by simp)) w,Result.andThen_ok];have hr:=k_items f d is (fun j hj=>h j (by simp[hj])) w;simp[go_sem,hr]
theorem k_self (f:Nat->Int) (d:Nat) (w:World):(Op.equalIn (d+2) 23 (.agg (kArr f)) (.agg (kArr f))).run Tryz.prog w=.ok true w:=by
 obtain⟨q,hq,_⟩:=info_parts Tryz.infoByte;rw[run_equalIn_array w (d+1) (kArr f) (kArr f) Tryz.underlying23 hq,cells5,k_items f d (List.range 16) (fun i hi=>by simpa using hi) w]
theorem cfg_self (c:Cfg) (w:World):(binOp .eql 25 (.agg c.arr) (.agg c.arr)).run Tryz.prog w=.ok (.bool true) w:=by
 have h1:=fun w=>k_self c.key 9997 w;have h2:=fun w=>k_self c.code 9997 w;rw[cfgLit_eq];unfold cfgLit;simp only[kArr]at h1 h2;simp[go_sem,h1,h2]
end Go.Proofs.YtnadmdadcpemnaaGreat
namespace Go.Proofs.YtnadmdadcpemnaaGreat
set_option linter.unusedVariables false
set_option linter.unusedSimpArgs false
open Go.ChangeShapes Go.WideShapes Go.ChangeAt Go.RowKit
def valInt:Option Value->Int
 | some (.int _ a)=>a
 | _=>0
section
variable {H:Type} {enc:TypeId×Value->H} {w:World} {base:Nat} {spare:Nat->Bool} {held:Bool}
theorem open_b16 {fuel:Nat} {L:List Value} {x:DataW H×List MemPlace} (h:DataW.trod enc Tryz.prog w base spare held fuel 23 L=some x) :
  ∃f:Nat->Int,(∀j,j < 16->L[j]? = some (.int .u8 (f j)))/\∀j,j < 16->0<=f j/\f j < 256:=by
 obtain⟨xs,m,_,_,_,hx,hel⟩:=DataW.trod_array Tryz.underlying23 h;have c5:Tryz.prog.cellsOf 5 = 1:=by kernel_rfl
 have key:∀j,j < 16->∃a,L[j]? = some (.int .u8 a)/\0<=a/\a < 256:=fun j hj=>by
  have h1:=hel j hj;rw[c5,Nat.mul_one,List.getElem?_eq_getElem (by omega)]at h1;obtain⟨a,e,_,hw⟩:=DataW.trod_int Tryz.underlying5 h1;have h2:=congrArg List.head? e;simp[List.head?_take]at h2;have hb:=bounds_u8 hw
  exact⟨a,h2,hb.1,by omega⟩
 refine⟨fun j=>valInt L[j]?,fun j hj=>?_,fun j hj=>?_⟩
 ·obtain⟨a,e,_⟩:=key j hj;simp only[e,valInt]
 ·obtain⟨a,e,hb⟩:=key j hj;simp only[e,valInt]
  exact hb
theorem open_cfg {r:Reach} {b0:Nat} {v:Value} {d:DataW H} {p:List MemPlace}
  (hv:Value.okWide Tryz.prog w r b0 25 v) (h:DataW.Trod enc Tryz.prog w base spare held 25 v d p):∃c:Cfg,v=.agg c.arr/\c.Ok:=by
 obtain⟨cs,rfl,hsz⟩:=okWide_struct Tryz.underlying25 hv;have hc:Tryz.prog.cellsOf 25 = 39:=by kernel_rfl
 have h9:cs.size=39:=hsz.trans hc;obtain⟨fuel,hf⟩:=h;obtain⟨xs,n,_,_,_,hlen,hg⟩:=DataW.trod_struct Tryz.underlying25 hf;have c3:Tryz.prog.cellsOf 3 = 1:=by kernel_rfl
 have c22:Tryz.prog.cellsOf 22 = 1:=by kernel_rfl
 have c4:Tryz.prog.cellsOf 4 = 1:=by kernel_rfl
 have c16:Tryz.prog.cellsOf 23 = 16:=by kernel_rfl
 have hx9:xs.length=9:=hlen;have keyi:∀(i o:Nat) (ty:TypeId),Tryz.prog.underlying ty=some (.int .i64)->i < 9->DataW.trod enc Tryz.prog w base spare held n ty (List.take 1 (List.drop o (Value.agg cs).cells.toList))=xs[i]?->∃a,cs[o]? = some (Value.int .i64 a):=by
  intro i o ty hu hi h1;rw[List.getElem?_eq_getElem (by omega)]at h1;obtain⟨a,e,_,_⟩:=DataW.trod_int hu h1;refine⟨a,?_⟩;have h2:=congrArg List.head? e;simp[Value.cells,List.head?_take]at h2
  exact h2
 have keyb:∀(i o:Nat),i < 9->DataW.trod enc Tryz.prog w base spare held n 4 (List.take 1 (List.drop o (Value.agg cs).cells.toList))=xs[i]?->∃a,cs[o]? = some (Value.bool a):=by
  intro i o hi h1;rw[List.getElem?_eq_getElem (by omega)]at h1;obtain⟨a,e,_⟩:=DataW.trod_bool Tryz.underlying4 h1;refine⟨a,?_⟩;have h2:=congrArg List.head? e;simp[Value.cells,List.head?_take]at h2
  exact h2
 have keya:∀(i o:Nat),i < 9->DataW.trod enc Tryz.prog w base spare held n 23 (List.take 16 (List.drop o (Value.agg cs).cells.toList))=xs[i]?->∃f:Nat->Int,(∀j,j < 16->cs[o+j]? = some (.int .u8 (f j)))/\∀j,j < 16->0<=f j/\f j < 256:=by
  intro i o hi h1;rw[List.getElem?_eq_getElem (by omega)]at h1;obtain⟨f,e,hb⟩:=open_b16 h1;refine⟨f,fun j hj=>?_,hb⟩;have:=e j hj;rw[List.getElem?_take,if_pos hj,List.getElem?_drop]at this;simpa[Value.cells]using this
 obtain⟨a0,e0⟩:=keyi 0 0 3 Tryz.underlying3 (by decide) (by have h1:DataW.trod enc Tryz.prog w base spare held n 3 (List.take (Tryz.prog.cellsOf 3) (List.drop 0 (Value.agg cs).cells.toList))=xs[0]?:=hg 0 _ rfl;rwa [c3]at h1);obtain⟨a1,e1⟩:=keyi 1 1 22 Tryz.underlying22 (by decide) (by have h1:DataW.trod enc Tryz.prog w base spare held n 22 (List.take (Tryz.prog.cellsOf 22) (List.drop 1 (Value.agg cs).cells.toList))=xs[1]?:=hg 1 _ rfl;rwa [c22]at h1);obtain⟨a2,e2,r2⟩:=keya 2 2 (by decide) (by have h1:DataW.trod enc Tryz.prog w base spare held n 23 (List.take (Tryz.prog.cellsOf 23) (List.drop 2 (Value.agg cs).cells.toList))=xs[2]?:=hg 2 _ rfl;rwa [c16]at h1);obtain⟨a3,e3,r3⟩:=keya 3 18 (by decide) (by have h1:DataW.trod enc Tryz.prog w base spare held n 23 (List.take (Tryz.prog.cellsOf 23) (List.drop 18 (Value.agg cs).cells.toList))=xs[3]?:=hg 3 _ rfl;rwa [c16]at h1);obtain⟨a4,e4⟩:=keyb 4 34 (by decide) (by have h1:DataW.trod enc Tryz.prog w base spare held n 4 (List.take (Tryz.prog.cellsOf 4) (List.drop 34 (Value.agg cs).cells.toList))=xs[4]?:=hg 4 _ rfl;rwa [c4]at h1);obtain⟨a5,e5⟩:=keyb 5 35 (by decide) (by have h1:DataW.trod enc Tryz.prog w base spare held n 4 (List.take (Tryz.prog.cellsOf 4) (List.drop 35 (Value.agg cs).cells.toList))=xs[5]?:=hg 5 _ rfl;rwa [c4]at h1);obtain⟨a6,e6⟩:=keyb 6 36 (by decide) (by have h1:DataW.trod enc Tryz.prog w base spare held n 4 (List.take (Tryz.prog.cellsOf 4) (List.drop 36 (Value.agg cs).cells.toList))=xs[6]?:=hg 6 _ rfl;rwa [c4]at h1);obtain⟨a7,e7⟩:=keyi 7 37 3 Tryz.underlying3 (by decide) (by have h1:DataW.trod enc Tryz.prog w base spare held n 3 (List.take (Tryz.prog.cellsOf 3) (List.drop 37 (Value.agg cs).cells.toList))=xs[7]?:=hg 7 _ rfl;rwa [c3]at h1);obtain⟨a8,e8⟩:=keyi 8 38 3 Tryz.underlying3 (by decide) (by have h1:DataW.trod enc Tryz.prog w base spare held n 3 (List.take (Tryz.prog.cellsOf 3) (List.drop 38 (Value.agg cs).cells.toList))=xs[8]?:=hg 8 _ rfl;rwa [c3]at h1);obtain⟨c,hcd⟩:∃c:Cfg,c=⟨a0,a1,a2,a3,a4,a5,a6,a7,a8⟩:=⟨_,rfl⟩
 refine⟨c,?_,by rw[hcd];exact⟨r2,r3⟩⟩;have:cs=c.arr:=by
  apply Array.ext_getElem?;intro i;by_cases hi:i < 39
  ·rw[c.arr_at hi,hcd];unfold Cfg.cell;rcases (by omega:i=0\/i=1\/(2<=i/\i < 18)\/(18<=i/\i < 34)\/i=34\/i=35\/i=36\/i=37\/i=38)with rfl | rfl | h | h | rfl | rfl | rfl | rfl | rfl
   ·exact e0
   ·exact e1
   ·rw[if_neg (by omega),if_neg (by omega),if_pos (by omega)];have:=e2 (i-2) (by omega)
    rwa [show 2+(i-2)=i by omega]at this
   ·rw[if_neg (by omega),if_neg (by omega),if_neg (by omega),if_pos (by omega)];have:=e3 (i-18) (by omega)
    rwa [show 18+(i-18)=i by omega]at this
   ·exact e4
   ·exact e5
   ·exact e6
   ·exact e7
   ·exact e8
  ·rw[Array.getElem?_eq_none (by omega),Array.getElem?_eq_none (by rw[c.arr_size];omega)]
 rw[this]
end
end Go.Proofs.YtnadmdadcpemnaaGreat
namespace Go.Proofs.YtnadmdadcpemnaaGreat
set_option linter.unusedVariables false
set_option linter.unusedSimpArgs false
open Go.RowKit
attribute [local go_sem ↓] Go.wp_at_zero Go.wp_at_succ
theorem Cfg.setIg_arr (c:Cfg) (x:Bool):c.arr.setIfInBounds 34 (.bool x)=({ c with ig:=x }:Cfg).arr:=by
 apply Array.ext_getElem?;intro j;rw[Array.getElem?_setIfInBounds,c.arr_size];by_cases hj:j < 39
 ·rw[({ c with ig:=x }:Cfg).arr_at hj];by_cases e:34=j
  ·subst e;rw[if_pos rfl,if_pos (by omega)];rfl
  ·rw[if_neg e,c.arr_at hj];unfold Cfg.cell;by_cases h0:j=0
   ·simp[h0]
   by_cases h1:j=1
   ·simp[h1]
   by_cases h2:j < 18
   ·simp[h0,h1,h2]
   by_cases h3:j < 34
   ·simp[h0,h1,h2,h3]
   by_cases h4:j=34
   ·exact absurd h4.symm e
   by_cases h5:j=35
   ·simp[h5]
   by_cases h6:j=36
   ·simp[h6]
   by_cases h7:j=37
   ·simp[h7]
   ·simp[h0,h1,h2,h3,h4,h5,h6,h7]
 ·rw[if_neg (by omega),Array.getElem?_eq_none (by rw[c.arr_size];omega),Array.getElem?_eq_none (by rw[Cfg.arr_size];omega)]
theorem Cfg.setCm_arr (c:Cfg) (x:Bool):c.arr.setIfInBounds 35 (.bool x)=({ c with cm:=x }:Cfg).arr:=by
 apply Array.ext_getElem?;intro j;rw[Array.getElem?_setIfInBounds,c.arr_size];by_cases hj:j < 39
 ·rw[({ c with cm:=x }:Cfg).arr_at hj];by_cases e:35=j
  ·subst e;rw[if_pos rfl,if_pos (by omega)];rfl
  ·rw[if_neg e,c.arr_at hj];unfold Cfg.cell;by_cases h0:j=0
   ·simp[h0]
   by_cases h1:j=1
   ·simp[h1]
   by_cases h2:j < 18
   ·simp[h0,h1,h2]
   by_cases h3:j < 34
   ·simp[h0,h1,h2,h3]
   by_cases h4:j=34
   ·simp[h4]
   by_cases h5:j=35
   ·exact absurd h5.symm e
   by_cases h6:j=36
   ·simp[h6]
   by_cases h7:j=37
   ·simp[h7]
   ·simp[h0,h1,h2,h3,h4,h5,h6,h7]
 ·rw[if_neg (by omega),Array.getElem?_eq_none (by rw[c.arr_size];omega),Array.getElem?_eq_none (by rw[Cfg.arr_size];omega)]
def Cfg.noK (c:Cfg):Cfg:={ c with cm:=false }
theorem Cfg.noK_arr (c:Cfg):c.arr.setIfInBounds 35 (.bool false)=c.noK.arr:=c.setCm_arr false
theorem plain46_ok (c:Cfg) (w:World):Calls Tryz.prog 7 #[.agg c.arr] w fun e w'=>e=.returned (.agg c.noK.arr)/\Below w.heap.size w w':=by
 have HP:=Lib.hid c.noK_arr;have HS:Hid ((Tryz.prog.info? 25).map (·.size)=some c.noK.arr.size):=Lib.hid (by rw[c.noK.arr_size];exact infoPd);have HO:=Lib.hid c.noK.arr_one;have HZS:Hid (Cfg.zero.arr.size=c.noK.arr.size):=Lib.hid (by rw[Cfg.arr_size,Cfg.arr_size]);have c35:=c.arr_at (j:=35) (by decide);obtain⟨Z,hZ⟩:∃Z,Z=c.arr:=⟨_,rfl⟩
 obtain⟨Y,hY⟩:∃Y,Y=c.noK.arr:=⟨_,rfl⟩
 rw[<-hZ]at HP c35 ⊢;rw[<-hY]at HP HS HO HZS ⊢;have HC35:=Lib.hid c35;have HU:=Lib.hid Tryz.underlying25;clear hZ hY c35;go_enter Tryz.func7,Tryz.ntmps7;go_upto_region 1 with (fail)
 obtain⟨g,hg⟩:∃g,g=w.heap.size:=⟨_,rfl⟩
 refine wp_let (fun W=>Blk W g 25 Z/\Blk W (g+1) 25 Cfg.zero.arr/\Below w.heap.size w W) ⟨by rw[hg];exact(Blk.new _ _ _).alloc _,by rw[cf0_lit,hg];exact blk_atZ _ _ _ _ (by simp),((Below.refl _ w).alloc (Nat.le_refl _) _).alloc (by simp) _⟩ ?_;rintro W1 ⟨b1,b2,b3⟩;have B1:=Lib.hid b1;have B2:=Lib.hid b2;have B3:=Lib.hid b3;have HG:=Lib.hid hg;rw[<-hg];have c35:W1.cell? ⟨g,35,none⟩=some (c.cell 35):=(b1.cell 35).trans HC35.out;have f35:=b1.frozen 35;clear b1 b2 b3 hg;go_upto_region 2 with (fail)
 refine wp_let (fun W=>Blk W g 25 Y/\Blk W (g+1) 25 Cfg.zero.arr/\Below w.heap.size w W) ⟨by rw[<-HP.out];exact B1.out.set_ 35 _,B2.out.far (p:=⟨g,35,none⟩) (by show ¬g+1=g;omega) _,B3.out.setCell (p:=⟨g,35,none⟩) (by rw[HG.out];exact Nat.le_refl _) _⟩ ?_;rintro W2 ⟨b1,b2,b3⟩;have D1:=Lib.hid b1;have D2:=Lib.hid b2;have D3:=Lib.hid b3;clear b1 b2 b3 c35 f35;go_wp2_with (first
  | (refine wpList_load_row rfl _ _ rfl g rfl 25 Y (0,0) _ D1.out HU.out rfl HS.out ?_)
  | (refine wpList_store_row rfl _ _ _ rfl (g+1) Y rfl rfl 25 _ D2.out HS.out HZS.out HO.out ?_))
 refine bodyPost_ret (v:=.agg Y) (results_cell_row (g:=g+1) (t:=25) (fr:=(0,0)) Tryz.results7 _ _ Y _ rfl (setRow_heap _ _ _ Y 25 (0,0) D2.out) HU.out rfl HS.out) rfl ⟨rfl,?_⟩
 exact belowRow D3.out (by rw[HG.out];omega) _
end Go.Proofs.YtnadmdadcpemnaaGreat
namespace Go.Proofs.YtnadmdadcpemnaaGreat
set_option linter.unusedVariables false
set_option linter.unusedSimpArgs false
open Go.RowKit
section
variable {P:Program}
theorem SL.srcN {w:World} {e tx e':TypeId} {sz:Nat} (hk:P.underlying tx=some (.slice e')) {A:Option Addr} {n c:Nat} {xs:List Value} (h:SL w e sz A n c xs) (h1:∀u,u∈xs->u.oneCell'=true):Src P sz tx (.slice A n c) n xs w:=by
 have hl:=h.len;rcases h.at_ with ⟨rfl,rfl,rfl⟩ | ⟨b,o,cur,rfl,h2,h3,h4,h5,h6⟩
 ·have:xs=[]:=List.eq_nil_of_length_eq_zero (by rw[hl,Nat.zero_mul]);subst this
  exact Src.ofNil w hk 0
 ·refine Src.ofSlice w hk ⟨b,o,none⟩ n c xs hl (fun j u hu=>?_) h1;have hj:j < n*sz:=by have:=(List.getElem?_eq_some_iff.1 hu).1;rwa [hl]at this
  rw[Addr.add_lit]
  exact(h.cell rfl hj).trans hu
theorem sl_append0 (w:World) (t tx ty e:TypeId) (i:TypeInfo) (ht:P.underlying t=some (.slice e)) (hi:P.info? e=some i) {A:Option Addr} {n c:Nat} {xs:List Value} (h:SL w e i.size A n c xs) (x:Value) (hs:Src P i.size tx x 0 [] w) :
  (Builtin.append_ #[t,tx] ty #[.slice A n c,x]).run P w=.ok (.slice A n c) w:=by
 have hroom:n+0<=c:=by have:=h.le;omega
 cases A with
 | some a=>
  rcases h.at_ with ⟨h1,_⟩ | ⟨b,o,cur,h1,_⟩
  ·cases h1
  ·cases h1
   exact run_append_room_src (P:=P) w t tx ty e i ht hi b o n c x 0 [] hs hroom (fun j hj=>(by cases hj)) (fun j hj=>(by cases hj))
 | none=>
  rcases hs.kind with ⟨e',hk⟩ | hk<;>simp[Builtin.append_,run_underlying ht,run_underlying hk,sizeOf,typeInfo,hi,hs.len,show n<=c from hroom,hs.cells]
theorem sl_appendA (w:World) (t tx ty e:TypeId) (i:TypeInfo) (z:Value) (sz bytes:Nat) (ht:P.underlying t=some (.slice e)) (hi:P.info? e=some i) (hz:i.zero=some z) (hsize:i.size=sz) (hby:i.bytes=bytes) (hzs:z.cells.size=sz)
  {A:Option Addr} {n c:Nat} {xs:List Value} (h:SL w e sz A n c xs) (x:Value) (m:Nat) (news:List Value) (hs:Src P sz tx x m news w) (h63:n+m<=maxLen) (hbytes:(n+m)*bytes<=140737488355328) :
  ∃A' c' w',(Builtin.append_ #[t,tx] ty #[.slice A n c,x]).run P w=.ok (.slice A' (n+m) c') w'/\SL w' e sz A' (n+m) c' (xs++news)/\KeepF (fun k=>∃a,A=some a/\k=a.block) w w'/\(∀a,A'=some a->(∃a',A=some a'/\a.block=a'.block)\/w.heap.size<=a.block):=by
 cases m with
 | succ m=>exact sl_append w t tx ty e i z sz bytes ht hi hz hsize hby hzs h x (m+1) news hs (by omega) h63 hbytes
 | zero=>
  have:news=[]:=List.eq_nil_of_length_eq_zero (by rw[hs.newsLen,Nat.zero_mul]);subst this;subst hsize;refine⟨A,c,w,sl_append0 w t tx ty e i ht hi h x hs,by rw[List.append_nil];exact h,KeepF.refl,fun a ha=>.inl ⟨a,ha,rfl⟩⟩
theorem wpList_sl_appendA {ops:Array Oper} {rest:List Oper} {o:Oper} {a:Act} {Q:Exit->Act->World->Prop} (hgd:o.guard=none) (s x:Operand) (t tx:TypeId) (ho:o.op=.call { callee:=.builtin .append,args:=#[s,x],argTypes:=#[t,tx] })
  (w:World) (e:TypeId) (i:TypeInfo) (z:Value) (sz bytes:Nat) (ht:P.underlying t=some (.slice e)) (hi:P.info? e=some i) (hz:i.zero=some z) (hsize:i.size=sz) (hby:i.bytes=bytes) (hzs:z.cells.size=sz)
  (A:Option Addr) (n c:Nat) (xs:List Value) (hsv:a.eval s=.slice A n c) (h:SL w e sz A n c xs) (xv:Value) (hxv:a.eval x=xv) (m:Nat) (news:List Value) (hs:Src P sz tx xv m news w) (h63:n+m<=maxLen) (hbytes:(n+m)*bytes<=140737488355328)
  (hK:∀A' c' w',SL w' e sz A' (n+m) c' (xs++news)->KeepF (fun k=>∃a,A=some a/\k=a.block) w w'->(∀a,A'=some a->(∃a',A=some a'/\a.block=a'.block)\/w.heap.size<=a.block)->wpList P ops Q rest (a.put o.dst (.slice A' (n+m) c')) w'):wpList P ops Q (o :: rest) a w:=
 wpList_plain hgd fun K hK'=>by
  obtain⟨A',c',w',hrun,h1,h2,h3⟩:=sl_appendA w t tx o.type e i z sz bytes ht hi hz hsize hby hzs h xv m news hs h63 hbytes;unfold Oper.wp execOp;simp only[ho,resolve,invoke,builtin,Sem.run_bind,Sem.run_pure,Result.andThen_ok,List.map_toArray,List.map_cons,List.map_nil,hsv,hxv,hrun]
  exact hK' _ _ (hK A' c' w' h1 h2 h3)
theorem wp_sl_appendA {o:Oper} {a:Act} {K:Act->World->Prop} {Q:Exit->Act->World->Prop} (s x:Operand) (t tx:TypeId) (ho:o.op=.call { callee:=.builtin .append,args:=#[s,x],argTypes:=#[t,tx] })
  (w:World) (e:TypeId) (i:TypeInfo) (z:Value) (sz bytes:Nat) (ht:P.underlying t=some (.slice e)) (hi:P.info? e=some i) (hz:i.zero=some z) (hsize:i.size=sz) (hby:i.bytes=bytes) (hzs:z.cells.size=sz)
  (A:Option Addr) (n c:Nat) (xs:List Value) (hsv:a.eval s=.slice A n c) (h:SL w e sz A n c xs) (xv:Value) (hxv:a.eval x=xv) (m:Nat) (news:List Value) (hs:Src P sz tx xv m news w) (h63:n+m<=maxLen) (hbytes:(n+m)*bytes<=140737488355328)
  (hK:∀A' c' w',SL w' e sz A' (n+m) c' (xs++news)->KeepF (fun k=>∃a,A=some a/\k=a.block) w w'->(∀a,A'=some a->(∃a',A=some a'/\a.block=a'.block)\/w.heap.size<=a.block)->K (a.put o.dst (.slice A' (n+m) c')) w'):o.wp P a w K Q:=by
 obtain⟨A',c',w',hrun,h1,h2,h3⟩:=sl_appendA w t tx o.type e i z sz bytes ht hi hz hsize hby hzs h xv m news hs h63 hbytes;unfold Oper.wp execOp;simp only[ho,resolve,invoke,builtin,Sem.run_bind,Sem.run_pure,Result.andThen_ok,List.map_toArray,List.map_cons,List.map_nil,hsv,hxv,hrun]
 exact hK A' c' w' h1 h2 h3
end
end Go.Proofs.YtnadmdadcpemnaaGreat
namespace Go.Proofs.YtnadmdadcpemnaaGreat
set_option linter.unusedVariables false
set_option linter.unusedSimpArgs false
open Go.RowKit Go.ChangeShapes Go.WideShapes
theorem open_bytes_row {H:Type} {enc:TypeId×Value->H} {w:World} {base:Nat} {spare:Nat->Bool} {held:Bool} {fuel:Nat} {v:Value} {x:DataW H×List MemPlace} (h:DataW.trod enc Tryz.prog w base spare held fuel 35 [v] = some x) (hsp:∀b,spare b=true) :
  ∃a len cap zs,v=.slice a len cap/\IsRow .u8 w a len cap zs:=by
 rcases open_ints Tryz.underlying35 Tryz.underlying5 (by kernel_rfl) h with ⟨hcs,_⟩ | ⟨x,l,c,zs,hcs,_,hl,hm,hz,_,hcell,hwz⟩
 ·simp at hcs;subst hcs
  exact⟨none,0,0,[],rfl,.inl ⟨rfl,rfl,rfl,rfl⟩⟩
 ·simp at hcs;subst hcs;rw[if_pos (hsp _)]at hz
  exact⟨some x,l,c,zs,rfl,.inr ⟨x,rfl,hl,hm,hz,hcell,hwz⟩⟩
theorem open_cnts {H:Type} {enc:TypeId×Value->H} {w:World} {base:Nat} {spare:Nat->Bool} {held:Bool} {fuel:Nat} {a:Option Addr} {len cap:Nat} {x:DataW H×List MemPlace}
  (h:DataW.trod enc Tryz.prog w base spare held fuel 44 [.slice a len cap] = some x) (hsp:∀b,spare b=true) :
  len<=maxLen/\len<=cap/\∃ct PA pn pc z,Cnts w a len ct PA pn pc z:=by
 rcases Go.Deep.open_slice_pairs Tryz.underlying44 Tryz.underlying77 (by kernel_rfl) rfl rfl (by kernel_rfl) (by kernel_rfl) h with ⟨hcs,_⟩ | ⟨ad,l,c,m,n,V0,V1,D0,D1,P0,P1,hcs,_,hl,hm,hmm,_,hf⟩
 ·simp at hcs;obtain⟨rfl,rfl,rfl⟩:=hcs
  exact⟨by unfold maxLen;omega,Nat.le_refl _,fun _=>0,fun _=>none,fun _=>0,fun _=>0,fun _ _=>0,⟨fun h=>absurd rfl h,fun k hk=>by omega,fun k hk=>by omega,fun k hk=>by omega,fun k hk=>by omega,fun k hk=>by omega⟩⟩
 ·simp at hcs;obtain⟨rfl,rfl,rfl⟩:=hcs;rw[if_pos (hsp _)]at hmm;subst hmm;have h0:∀i,∃q:Int,i < len->V0 i=.int .u32 q/\(Lit.int .u32 q).wf=true:=fun i=>by
   by_cases hi:i < len
   ·obtain⟨q,hq,_,hw⟩:=DataW.trod_int Tryz.underlying39 (hf i (by omega)).2.2.1
    exact⟨q,fun _=>⟨by simpa using hq,hw⟩⟩
   ·exact⟨0,fun h=>absurd h hi⟩
  have h1:∀i,∃q:Option Addr×Nat×Nat×List Int,i < len->V1 i=.slice q.1 q.2.1 q.2.2.1/\IsRow .u8 w q.1 q.2.1 q.2.2.1 q.2.2.2:=fun i=>by
   by_cases hi:i < len
   ·obtain⟨a,l,c,zs,hv,hr⟩:=open_bytes_row (hf i (by omega)).2.2.2 hsp
    exact⟨(a,l,c,zs),fun _=>⟨hv,hr⟩⟩
   ·exact⟨(none,0,0,[]),fun h=>absurd h hi⟩
  obtain⟨q0,hq0⟩:=Classical.axiomOfChoice h0;obtain⟨q1,hq1⟩:=Classical.axiomOfChoice h1;refine⟨by omega,hl,q0,fun k=>(q1 k).1,fun k=>(q1 k).2.1,fun k=>(q1 k).2.2.1,fun k j=>(q1 k).2.2.2.getD j 0,⟨fun hn=>?_,fun k hk=>by
   have h2:=(by simpa[Lit.wf]using (hq0 k hk).2:IntKind.u32.min<=q0 k/\q0 k<=IntKind.u32.max)
   rw[show IntKind.u32.min=0 from rfl,show IntKind.u32.max=4294967295 from rfl]at h2;omega,fun k hk=>by
   rcases (hq1 k hk).2 with ⟨_,h0,_⟩ | ⟨_,_,hl2,hm2,_⟩
   ·show(q1 k).2.1<=_;omega
   ·show(q1 k).2.1<=_;unfold maxLen at hm2;omega,fun k hk=>(isRow_u8 (hq1 k hk).2).1,fun k hk=>(isRow_u8 (hq1 k hk).2).2,fun k hk=>isRow_row (hq1 k hk).2⟩⟩
  ·obtain⟨b,off,spot⟩:=ad;have c0:=(hf 0 (by omega)).1;have hspot:spot=none:=by simpa[Addr.add]using World.cell?_spot c0
   subst hspot;have hadd:∀j,(⟨b,off,none⟩:Addr).add j=⟨b,off+j,none⟩:=fun j=>by unfold Addr.add;split<;>simp_all
   refine⟨b,off,rfl,?_,fun k hk=>?_⟩
   ·rw[hadd]at c0
    exact World.block_lt_of_cell? w _ c0
   ·obtain⟨e0,e1,_,_⟩:=hf k (by omega);rw[hadd]at e0 e1;rw[(hq0 k hk).1]at e0;rw[(hq1 k hk).1]at e1
    exact⟨e0,e1⟩
theorem open_received {H:Type} {enc:TypeId×Value->H} {w:World} {base:Nat} {spare:Nat->Bool} {held:Bool} {r:Reach} {b0:Nat} {v:Value} {d:DataW H} {p:List MemPlace}
  (hv:Value.okWide Tryz.prog w r b0 46 v) (h:DataW.Trod enc Tryz.prog w base spare held 46 v d p) (hsp:∀b,spare b=true) :
  ∃(x y:Int) (A:Option Addr) (m c:Nat) (ct:Nat->Int) (PA:Nat->Option Addr) (pn pc:Nat->Nat) (z:Nat->Nat->Int),v=.agg #[.int .u64 x,.int .u64 y,.slice A m c]/\(0<=x/\x < 18446744073709551616)/\(0<=y/\y < 18446744073709551616)/\m<=maxLen/\Cnts w A m ct PA pn pc z:=by
 obtain⟨cs,rfl,hsz⟩:=okWide_struct Tryz.underlying46 hv;have hc:Tryz.prog.cellsOf 46 = 3:=by kernel_rfl
 have h3:cs.size=3:=hsz.trans hc;obtain⟨fuel,hf⟩:=h;obtain⟨xs,n,_,_,_,hlen,hg⟩:=DataW.trod_struct Tryz.underlying46 hf;have hx3:xs.length=3:=hlen;have c1:Tryz.prog.cellsOf 43 = 1:=by kernel_rfl
 have c2:Tryz.prog.cellsOf 44 = 1:=by kernel_rfl
 obtain⟨l⟩:=cs
 match l,h3 with
 | [a,b,e],_=>
  have g0:DataW.trod enc Tryz.prog w base spare held n 43 (List.take (Tryz.prog.cellsOf 43) (List.drop 0 [a,b,e]))=xs[0]?:=hg 0 _ rfl;have g1:DataW.trod enc Tryz.prog w base spare held n 43 (List.take (Tryz.prog.cellsOf 43) (List.drop 1 [a,b,e]))=xs[1]?:=hg 1 _ rfl;have g2:DataW.trod enc Tryz.prog w base spare held n 44 (List.take (Tryz.prog.cellsOf 44) (List.drop 2 [a,b,e]))=xs[2]?:=hg 2 _ rfl;rw[c1,List.getElem?_eq_getElem (by omega)]at g0 g1;rw[c2,List.getElem?_eq_getElem (by omega)]at g2;obtain⟨x,e0,_,w0⟩:=DataW.trod_int Tryz.underlying43 g0;obtain⟨y,e1,_,w1⟩:=DataW.trod_int Tryz.underlying43 g1;simp at e0 e1 g2;subst e0 e1;have u0:=(by simpa[Lit.wf]using w0:IntKind.u64.min<=x/\x<=IntKind.u64.max)
  have u1:=(by simpa[Lit.wf]using w1:IntKind.u64.min<=y/\y<=IntKind.u64.max)
  rw[show IntKind.u64.min=0 from rfl,show IntKind.u64.max=18446744073709551615 from rfl]at u0 u1;obtain⟨A,m,c,rfl⟩:∃A m c,e=.slice A m c:=by
   rcases Go.Deep.open_slice_pairs Tryz.underlying44 Tryz.underlying77 (by kernel_rfl) rfl rfl (by kernel_rfl) (by kernel_rfl) g2 with ⟨hcs,_⟩ | ⟨ad,l,c,m,n,V0,V1,D0,D1,P0,P1,hcs,_⟩
   ·simp at hcs;exact⟨_,_,_,hcs⟩
   ·simp at hcs;exact⟨_,_,_,hcs⟩
  obtain⟨hm,_,ct,PA,pn,pc,z,hC⟩:=open_cnts g2 hsp
  exact⟨x,y,A,m,c,ct,PA,pn,pc,z,rfl,⟨u0.1,Int.lt_of_le_of_lt u0.2 (by decide)⟩,⟨u1.1,Int.lt_of_le_of_lt u1.2 (by decide)⟩,hm,hC⟩
end Go.Proofs.YtnadmdadcpemnaaGreat
