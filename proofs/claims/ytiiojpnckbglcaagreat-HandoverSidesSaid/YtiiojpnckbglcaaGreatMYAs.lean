import Derived.Test.YtiiojpnckbglcaaGreatMVJs
import Derived.Test.YtiiojpnckbglcaaGreatMVSs
import Derived.Test.YtiiojpnckbglcaaGreatMVMs
import Derived.Test.YtiiojpnckbglcaaGreatMTBs
import Derived.Test.YtiiojpnckbglcaaGreatMZAs
import Derived.Lib.AppendZeros
import Derived.Test.YtiiojpnckbglcaaGreatB1s
set_option maxRecDepth 100000
set_option maxHeartbeats 1600000
set_option linter.unusedVariables false
set_option linter.unusedSimpArgs false
namespace Go.Proofs.YtiiojpnckbglcaaGreat
open Go.RowKit
attribute [local go_sem ↓] Go.wp_at_zero Go.wp_at_succ
theorem fS (b:Nat->Nat):(Tryz.prog.info? 190).map (·.size)=some (ar b).size:=by rw[ah];kernel_rfl
theorem me (a b:Nat->Nat) (ha:br a) (hb:br b) (w:World) :
  Calls Tryz.prog 140 #[.agg (ar a),.agg (ar b)] w fun e w'=>e=.returned (.agg (ar (ce a b)))/\Below w.heap.size w w':=by
 obtain⟨F,hF⟩:∃F:Nat->Nat->Nat,F=fun i x=>x ^^^ b i:=⟨_,rfl⟩
 have HFX:=zh (fun i x=>(by rw[hF]:F i x=x ^^^ b i));have HEA:Hid (ar (cR F a 16)=ar (ce a b)):=zh (by rw[iX];exact dI (fun j _=>by rw[hF];rfl));have HAT:=zh (fun j hj=>aR b (j:=j) hj);have HSZ:=zh (fS b);have HSF:=zh (fS (cR F a 16));have HO:=zh (aI (cR F a 16));have HA8:=zh ha;have HB8:=zh hb;obtain⟨E,hE⟩:∃E:Nat->Array Value,E=fun k=>ar (cR F a k):=⟨_,rfl⟩
 obtain⟨BA,hBA⟩:=af (ar b)
 obtain⟨AA,hAA⟩:=af (ar a)
 obtain⟨ZB,hZB⟩:∃ZB:Array Value,ZB=#[.int .u8 0,.int .u8 0,.int .u8 0,.int .u8 0,.int .u8 0,.int .u8 0,.int .u8 0,.int .u8 0,.int .u8 0,.int .u8 0,.int .u8 0,.int .u8 0,.int .u8 0,.int .u8 0,.int .u8 0,.int .u8 0]:=⟨_,rfl⟩
 have HEE:=zh hE;have HES:Hid (∀k,k < 16->(E k).setIfInBounds k (.int .u8 (F k (a k):Nat))=E (k+1)):=zh (by rw[hE];exact fun k hk=>iY F a k hk);have HEC:Hid (∀k,k < 16->(E k)[k]? = some (.int .u8 (a k:Nat))):=zh (by rw[hE];exact fun k hk=>(aR _ hk).trans (by unfold cR;rw[if_neg (Nat.lt_irrefl k)]));have HZS:Hid (ZB.size=16):=zh (by rw[hZB];rfl);rw[<-hBA]at HAT HSZ;rw[<-hBA,<-hAA];have HBE:Hid (AA=E 0):=zh (by rw[hE,hAA];exact congrArg ar (dO F a).symm);have HZB:=zh hZB;clear hE hBA hAA hZB hF ha hb;go_enter Tryz.func140,Tryz.ntmps140;go_upto_region 1 with (fail)
 obtain⟨bb,hbb⟩:=af w.heap.size
 refine ag (fun V=>ae V bb 190 AA/\ae V (bb+1) 190 BA/\ae V (bb+1+1) 190 ZB/\Below w.heap.size w V) ⟨by rw[hbb];exact((ae.new _ _ _).alloc _).alloc _,by rw[hbb];exact(aq _ _ _ _ (by simp)).alloc _,by rw[hbb,HZB.out];exact aq _ _ _ _ (by simp),((bM _).alloc (by simp only[World.size_alloc];omega) _).alloc (by simp only[World.size_alloc];omega) _⟩ ?_;rintro W1 ⟨b1,b2,b3,b4⟩;have B1:=zh b1;have B2:=zh b2;have B3:=zh b3;have B4:=zh b4;have HBB:=zh hbb;rw[<-hbb];clear b1 b2 b3 b4 hbb;go_wp2_with (refine wpList_load_row rfl _ _ rfl (bb+1) rfl 190 BA (0,0) _ B2.out Tryz.underlying190 rfl HSZ.out ?_);go_loopw [8] (fun v wr=>∃k:Nat,k<=16/\v=.int .i64 k/\ae wr bb 190 (E k)/\ae wr (bb+1+1) 190 ZB/\Below w.heap.size w wr) (fun v _=>16-(intOf v).toNat)
 case atStart=>exact⟨0,by omega,rfl,by rw[<-HBE.out];exact B1.out,B3.out,B4.out⟩
 case round=>
  clear B1 B2 B3 B4;obtain⟨k,hk,rfl,hB,hZ,hb⟩:=hrel;have k0:(0:Int)<=(k:Int):=by omega
  have HB:=zh hB;have HZb:=zh hZ;have HBW:=zh hb;clear hB hZ hb;by_cases hlt:k < 16
  ·have k1:(k:Int) < 16:=by omega
   obtain⟨iu,hiu,hius⟩:=iT;have hix:=gd (P:=Tryz.prog) 190 5 16 Tryz.underlying190 iu hiu hius .u8 Tryz.underlying5 BA k hlt _ (HAT.out k hlt);have HES':=zh (HES.out k hlt);have hxb:=bx (a k) (b k) (F k (a k)) (HA8.out k hlt) (HB8.out k hlt) (HFX.out k (a k)).symm;have c4:=(HB.out.cell k).trans (HEC.out k hlt);have f4:=HB.out.frozen k;obtain⟨x,hx⟩:=af (a k)
   obtain⟨y,hy⟩:=af (b k)
   obtain⟨v,hv⟩:=af (F k x)
   rw[<-hx]at hxb c4 HES';rw[<-hy]at hxb hix;rw[<-hv]at hxb HES';clear hiu hx hy hv;go_wp2;go_roundw
   case rel=>
    refine⟨k+1,by omega,by go_num,?_,HZb.out.far (p:=⟨bb,k,none⟩) (by show ¬bb+1+1=bb;omega) _,HBW.out.setCell (p:=⟨bb,k,none⟩) (by show w.heap.size<=bb;rw[HBB.out];exact Nat.le_refl _) _⟩;rw[<-HES'.out]
    exact HB.out.set_ k _
   case measure=>simp[intOf];omega
  ·obtain rfl:k=16:=by omega
   have HA:Hid (E 16=ar (ce a b)):=zh (by rw[HEE.out];exact HEA.out);have HO16:Hid ((E 16).all (·.oneCell')=true):=zh (by rw[HEE.out];exact HO.out);have HS16:Hid ((Tryz.prog.info? 190).map (·.size)=some (E 16).size):=zh (by rw[HEE.out];exact HSF.out);have HZ16:Hid (ZB.size=(E 16).size):=zh (by rw[HZS.out,HEE.out,ah]);obtain⟨X,hX⟩:=af (E 16)
   rw[<-hX]at HB HA HO16 HS16 HZ16;have n1:¬(16:Int) < 16:=by omega
   clear hX hk;go_wp2_with (first
    | (refine wpList_load_row rfl _ _ rfl bb rfl 190 X (0,0) _ HB.out Tryz.underlying190 rfl HS16.out ?_)
    | (refine wpList_store_row rfl _ _ _ rfl (bb+1+1) X rfl rfl 190 ZB HZb.out HS16.out HZ16.out HO16.out ?_))
   refine bodyPost_ret (v:=.agg X) (results_cell_row (g:=bb+1+1) (t:=190) (fr:=(0,0)) Tryz.results140 _ _ X _ rfl (setRow_heap wr (bb+1+1) ZB X 190 (0,0) HZb.out) Tryz.underlying190 rfl HS16.out) rfl ⟨by rw[HA.out],?_⟩
   exact aj HBW.out (by rw[HBB.out];omega) _
def uL (b:Nat->Nat) (k:Nat):Nat->Nat:=fun j=>if j < k then (if j < 15 then (b j*2 % 256) ||| (b (j+1) / 128) else b j*2 % 256) else 0
theorem t9 (b:Nat->Nat):ar (uL b 0)=ar (fun _=>0):=dI fun j _=>by unfold uL;rw[if_neg (by omega)]
theorem vy (b:Nat->Nat) (k v:Nat) (hk:k < 16) (hv:v=if k < 15 then (b k*2 % 256) ||| (b (k+1) / 128) else b k*2 % 256):(ar (uL b k)).setIfInBounds k (.int .u8 (v:Nat))=ar (uL b (k+1)):=by
 rw[jF _ _ _ hk];refine dI fun j hj=>?_;unfold eA uL;by_cases e:j=k
 ·subst e;rw[if_pos rfl,if_pos (by omega),hv]
 ·rw[if_neg e];by_cases h2:j < k
  ·simp[h2,show j < k+1 by omega]
  ·simp[h2,show ¬j < k+1 by omega]
theorem wG (b:Nat->Nat) (v:Nat) (hv:v=(b 15*2 % 256) ^^^ (b 0 / 128*135 % 256)):(ar (uL b 16)).setIfInBounds 15 (.int .u8 (v:Nat))=ar (ix b):=by
 rw[jF _ _ _ (by decide)];refine dI fun j hj=>?_;unfold eA uL ix;by_cases e:j=15
 ·subst e;rw[if_pos rfl,if_neg (by omega),hv]
 ·rw[if_neg e,if_pos hj,if_pos (by omega),if_pos (by omega)]
theorem yn:ar (fun _=>0)=#[.int .u8 0,.int .u8 0,.int .u8 0,.int .u8 0,.int .u8 0,.int .u8 0,.int .u8 0,.int .u8 0,.int .u8 0,.int .u8 0,.int .u8 0,.int .u8 0,.int .u8 0,.int .u8 0,.int .u8 0,.int .u8 0]:=by kernel_rfl
theorem jJ (b:Nat->Nat) (hb:br b) (w:World) :
  Calls Tryz.prog 183 #[.agg (ar b)] w fun e w'=>e=.returned (.agg (ar (ix b)))/\Below w.heap.size w w':=by
 have HB8:=zh hb;have HAT:=zh (fun j hj=>aR b (j:=j) hj);obtain⟨E,hE⟩:∃E:Nat->Array Value,E=fun k=>ar (uL b k):=⟨_,rfl⟩
 obtain⟨BA,hBA⟩:=af (ar b)
 obtain⟨ZB,hZB⟩:∃ZB:Array Value,ZB=#[.int .u8 0,.int .u8 0,.int .u8 0,.int .u8 0,.int .u8 0,.int .u8 0,.int .u8 0,.int .u8 0,.int .u8 0,.int .u8 0,.int .u8 0,.int .u8 0,.int .u8 0,.int .u8 0,.int .u8 0,.int .u8 0]:=⟨_,rfl⟩
 have HEE:=zh hE;have HES:Hid (∀k v,k < 16->(v=if k < 15 then (b k*2 % 256) ||| (b (k+1) / 128) else b k*2 % 256)->(E k).setIfInBounds k (.int .u8 (v:Nat))=E (k+1)):=zh (by rw[hE];exact fun k v hk hv=>vy b k v hk hv);have HES2:Hid (∀k (u v:Value),((E k).setIfInBounds k u).setIfInBounds k v=(E k).setIfInBounds k v):=zh (fun k u v=>by rw[Array.setIfInBounds_setIfInBounds]);have HEC:Hid (∀k,k < 16->(E k)[k]? = some (.int .u8 0)):=zh (by rw[hE];exact fun k hk=>(aR _ hk).trans (by unfold uL;rw[if_neg (Nat.lt_irrefl k)];rfl));have HBE:Hid (ZB=E 0):=zh (by rw[hE,hZB,<-yn];exact(t9 b).symm);rw[<-hBA]at HAT;rw[<-hBA];have HZB:=zh hZB;clear hE hBA hZB hb;go_enter Tryz.func183,Tryz.ntmps183;go_upto_region 1 with (fail)
 obtain⟨bb,hbb⟩:=af w.heap.size
 refine ag (fun V=>ae V bb 190 BA/\ae V (bb+1) 190 ZB/\Below w.heap.size w V) ⟨by rw[hbb];exact(ae.new _ _ _).alloc _,by rw[hbb,HZB.out];exact aq _ _ _ _ (by simp),(bM _).alloc (by simp only[World.size_alloc];omega) _⟩ ?_;rintro W1 ⟨b1,b2,b3⟩;have B1:=zh b1;have B2:=zh b2;have B3:=zh b3;have HBB:=zh hbb;rw[<-hbb];clear b1 b2 b3 hbb;go_wp2;go_loopw [4] (fun v wr=>∃k:Nat,k<=16/\v=.int .i64 k/\ae wr bb 190 BA/\ae wr (bb+1) 190 (E k)/\Below w.heap.size w wr) (fun v _=>16-(intOf v).toNat)
 case atStart=>exact⟨0,by omega,rfl,B1.out,by rw[<-HBE.out];exact B2.out,B3.out⟩
 case round=>
  clear B1 B2 B3;obtain⟨k,hk,rfl,hA,hB,hb⟩:=hrel;have k0:(0:Int)<=(k:Int):=by omega
  have HA:=zh hA;have HB:=zh hB;have HBW:=zh hb;clear hA hB hb;by_cases hlt:k < 16
  ·have k1:(k:Int) < 16:=by omega
   have c1:=(HA.out.cell k).trans (HAT.out k hlt);have c4:=(HB.out.cell k).trans (HEC.out k hlt);have f4:=HB.out.frozen k;obtain⟨x,hx⟩:=af (b k)
   have HX:=zh hx;have hx8:x < 256:=by rw[hx];exact HB8.out k hlt
   rw[<-hx]at c1;have x0:(0:Int)<=(x:Int):=by omega
   have x1:(x:Int) < 256:=by omega
   obtain⟨d,hd⟩:∃d:Nat,d=x*2 % 256:=⟨_,rfl⟩
   have HD:=zh hd;have hdI:(x:Int)*2 % 256=(d:Int):=by rw[hd];omega
   have d1:(d:Int) < 256:=by omega
   have d0:(0:Int)<=(d:Int):=by omega
   clear hx hd hx8;by_cases h15:k < 15
   ·have k2:(k:Int) < 15:=by omega
    have c2:=(HA.out.cell (k+1)).trans (HAT.out (k+1) (by omega));obtain⟨y,hy⟩:=af (b (k+1))
    have HY:=zh hy;have hy8:y < 256:=by rw[hy];exact HB8.out (k+1) (by omega)
    rw[<-hy]at c2;have y0:(0:Int)<=(y:Int):=by omega
    have y1:(y:Int) < 256:=by omega
    obtain⟨z,hz⟩:∃z:Nat,z=d ||| y / 128:=⟨_,rfl⟩
    have HZ:=zh hz;have hor:bits .or .u8 (d:Int) ((y:Int) / 128)=(z:Int):=by
     rw[show((y:Int) / 128)=((y / 128:Nat):Int) by omega,u8_or_nat d (y / 128) (by omega) (by omega),hz]
    clear hy hz hy8;go_upto_region 6 with (fail)
    refine ag (fun X=>ae X bb 190 BA/\ae X (bb+1) 190 ((E k).setIfInBounds k (.int .u8 (d:Int)))/\Below w.heap.size w X) ⟨HA.out.far (p:=⟨bb+1,k,none⟩) (by show ¬bb=bb+1;omega) _,HB.out.set_ k _,HBW.out.setCell (p:=⟨bb+1,k,none⟩) (by show w.heap.size<=bb+1;rw[HBB.out];omega) _⟩ ?_;rintro X ⟨x1',x2',x3'⟩;have XA:=zh x1';have XB:=zh x2';have XW:=zh x3';have e2:=(x1'.cell (k+1)).trans (HAT.out (k+1) (by omega));rw[<-HY.out]at e2;have hsz:k < (E k).size:=by rw[HEE.out];show k < (ar (uL b k)).size;rw[ah];exact hlt
    have e4:=(x2'.cell k).trans (by rw[Array.getElem?_setIfInBounds_self_of_lt hsz]:_=some (.int .u8 (d:Int)));have g4:=x2'.frozen k;clear x1' x2' x3' c1 c2 c4 f4 hsz;go_region;have HS:=zh (HES.out k z hlt (by rw[if_pos h15,HZ.out,HD.out,HX.out,HY.out]));have HS2:=zh (HES2.out k (.int .u8 (d:Int)) (.int .u8 (z:Nat)));go_wp2;go_roundw
    case rel=>
     refine⟨k+1,by omega,by go_num,((XA.out.far (p:=⟨bb+1,k,none⟩) (by show ¬bb=bb+1;omega) _).drew),?_,(XW.out.setCell (p:=⟨bb+1,k,none⟩) (by show w.heap.size<=bb+1;rw[HBB.out];omega) _).drew⟩;rw[<-HS.out,<-HS2.out]
     exact(XB.out.set_ k _).drew
    case measure=>simp[intOf];omega
   ·have k2:¬(k:Int) < 15:=by omega
    have HS:=zh (HES.out k d hlt (by rw[if_neg h15,HD.out,HX.out]));go_wp2;go_roundw
    case rel=>
     refine⟨k+1,by omega,by go_num,HA.out.far (p:=⟨bb+1,k,none⟩) (by show ¬bb=bb+1;omega) _,?_,HBW.out.setCell (p:=⟨bb+1,k,none⟩) (by show w.heap.size<=bb+1;rw[HBB.out];omega) _⟩;rw[<-HS.out]
     exact HB.out.set_ k _
    case measure=>simp[intOf];omega
  ·obtain rfl:k=16:=by omega
   have n1:¬(16:Int) < 16:=by omega
   have c0:=(HA.out.cell 0).trans (HAT.out 0 (by decide));have c15:=(HB.out.cell 15).trans (show(E 16)[15]? = some (.int .u8 ((b 15*2 % 256:Nat):Int)) by rw[HEE.out];exact(aR _ (by decide)).trans (by unfold uL;rw[if_pos (by decide),if_neg (by decide)]));have f15:=HB.out.frozen 15;obtain⟨q,hq⟩:=af (b 0)
   obtain⟨p,hp⟩:=af (b 15*2 % 256)
   have hq8:q < 256:=by rw[hq];exact HB8.out 0 (by decide)
   have hp8:p < 256:=by rw[hp];omega
   rw[<-hq]at c0;rw[<-hp]at c15;obtain⟨z,hz⟩:∃z:Nat,z=p ^^^ (q / 128*135 % 256):=⟨_,rfl⟩
   have hxb:bits .xor .u8 (p:Int) ((q:Int) / 128*135)=(z:Int):=by
    rw[show((q:Int) / 128*135)=((q / 128*135 % 256:Nat):Int) by omega]
    exact bx p (q / 128*135 % 256) z hp8 (Nat.mod_lt _ (by decide)) hz.symm
   have HXX:Hid ((E 16).setIfInBounds 15 (.int .u8 (z:Nat))=ar (ix b)):=zh (by rw[HEE.out];exact wG b z (by rw[hz,hp,hq]));have q0:(0:Int)<=(q:Int):=by omega
   have q1:(q:Int) < 256:=by omega
   have p0:(0:Int)<=(p:Int):=by omega
   have p1:(p:Int) < 256:=by omega
   clear hq hp hz hk;go_upto_region 9 with (fail)
   refine ag (fun V=>ae V (bb+1) 190 (ar (ix b))/\Below w.heap.size w V) ⟨by rw[<-HXX.out];exact HB.out.set_ 15 _,HBW.out.setCell (p:=⟨bb+1,15,none⟩) (by show w.heap.size<=bb+1;rw[HBB.out];omega) _⟩ ?_;rintro V ⟨v1,v2⟩;have V1:=zh v1;have V2:=zh v2;have HO16:Hid ((ar (ix b)).all (·.oneCell')=true):=zh (aI _);have HS16:Hid ((Tryz.prog.info? 190).map (·.size)=some (ar (ix b)).size):=zh (fS _);obtain⟨X,hX⟩:=af (ar (ix b))
   have HX:=zh hX;rw[<-hX]at V1 HO16 HS16;clear v1 v2 hX c0 c15 f15;go_wp2_with (first
    | (refine wpList_load_row rfl _ _ rfl (bb+1) rfl 190 X (0,0) _ V1.out Tryz.underlying190 rfl HS16.out ?_)
    | (refine wpList_store_row rfl _ _ _ rfl (bb+1) X rfl rfl 190 X V1.out HS16.out rfl HO16.out ?_))
   refine bodyPost_ret (v:=.agg X) (results_cell_row (g:=bb+1) (t:=190) (fr:=(0,0)) Tryz.results183 _ _ X _ rfl (setRow_heap V (bb+1) X X 190 (0,0) V1.out) Tryz.underlying190 rfl HS16.out) rfl ⟨by rw[HX.out],?_⟩
   exact aj V2.out (by rw[HBB.out];omega) _
theorem iJ {P:Program} {fn:Func} {p q:Tmp} {ty:TypeId} (h:fn.results=#[.cell p ty,.cell q ty]) (tmps:Array Value) (w:World) (g1 g2:Nat) (t:TypeId) (cs ds:Array Value) (f1 f2:Nat×Nat) (d:TypeDesc)
  (hp:tmps.getD p undef=.pointer (some ⟨g1,0,none⟩)) (hg1:w.heap[g1]? = some (.cells cs t f1)) (hq:tmps.getD q undef=.pointer (some ⟨g2,0,none⟩)) (hg2:w.heap[g2]? = some (.cells ds t f2))
  (hu:P.underlying ty=some d) (hd:(match d with | .struct _ | .array _ _=>true | _=>false)=true) (hi:(P.info? ty).map (·.size)=some cs.size) (hi2:(P.info? ty).map (·.size)=some ds.size) :
  (results fn tmps).run P w=.ok (.tuple #[.agg cs,.agg ds]) w:=by
 have hp':tmps[p]?.getD undef=.pointer (some ⟨g1,0,none⟩):=by simpa using hp
 have hq':tmps[q]?.getD undef=.pointer (some ⟨g2,0,none⟩):=by simpa using hq
 simp[results,h,hp',hq',asAddr,run_loadVar_row w g1 t ty cs f1 d hg1 hu hd hi,run_loadVar_row w g2 t ty ds f2 d hg2 hu hd hi2]
theorem gI (b:Nat->Nat):(Tryz.prog.info? 23).map (·.size)=some (ar b).size:=by rw[ah];kernel_rfl
theorem oM (key:Nat->Nat) (hk:br key) (w:World) :
  Calls Tryz.prog 139 #[.agg (ar key)] w fun e w'=>e=.returned (.tuple #[.agg (ar (eN key)),.agg (ar (gv key))])/\Below w.heap.size w w':=by
 have HN:=zh (fun V=>mo key hk V);have HEN:=zh (fun V g (h:cT V g key)=>gP key zB hk mZ g V h);have HD1:=zh (fun V=>jJ (gn key zB) (iF hk mZ) V);have HD2:=zh (fun V=>jJ (eN key) (jC hk) V);rw[show ar zB=#[.int .u8 0,.int .u8 0,.int .u8 0,.int .u8 0,.int .u8 0,.int .u8 0,.int .u8 0,.int .u8 0,.int .u8 0,.int .u8 0,.int .u8 0,.int .u8 0,.int .u8 0,.int .u8 0,.int .u8 0,.int .u8 0]from yn]at HEN;have HSK:=zh (gI key);have HS1:=zh (gI (eN key));have HS2:=zh (gI (gv key));have HC1:=zh (fS (eN key));have HO1:=zh (aI (eN key));have HO2:=zh (aI (gv key));obtain⟨KY,hKY⟩:∃X,X=ar key:=⟨_,rfl⟩
 obtain⟨EZ,hEZ⟩:∃X,X=ar (gn key zB):=⟨_,rfl⟩
 obtain⟨K1,hK1⟩:∃X,X=ar (eN key):=⟨_,rfl⟩
 obtain⟨K2,hK2⟩:∃X,X=ar (gv key):=⟨_,rfl⟩
 rw[show ix (gn key zB)=eN key from rfl]at HD1;rw[show ix (eN key)=gv key from rfl]at HD2;rw[<-hKY]at HN HSK;rw[<-hEZ]at HEN HD1;rw[<-hK1]at HD1 HD2 HS1 HC1 HO1;rw[<-hK2]at HD2 HS2 HO2;rw[<-hKY,<-hK1,<-hK2];have HZ1:Hid ((#[.int .u8 0,.int .u8 0,.int .u8 0,.int .u8 0,.int .u8 0,.int .u8 0,.int .u8 0,.int .u8 0,.int .u8 0,.int .u8 0,.int .u8 0,.int .u8 0,.int .u8 0,.int .u8 0,.int .u8 0,.int .u8 0]:Array Value).size=K1.size):=zh (by rw[hK1,ah];rfl);have HZ2:Hid ((#[.int .u8 0,.int .u8 0,.int .u8 0,.int .u8 0,.int .u8 0,.int .u8 0,.int .u8 0,.int .u8 0,.int .u8 0,.int .u8 0,.int .u8 0,.int .u8 0,.int .u8 0,.int .u8 0,.int .u8 0,.int .u8 0]:Array Value).size=K2.size):=zh (by rw[hK2,ah];rfl);have HZC:Hid ((#[.int .u8 0,.int .u8 0,.int .u8 0,.int .u8 0,.int .u8 0,.int .u8 0,.int .u8 0,.int .u8 0,.int .u8 0,.int .u8 0,.int .u8 0,.int .u8 0,.int .u8 0,.int .u8 0,.int .u8 0,.int .u8 0]:Array Value).size=K1.size):=HZ1;obtain⟨ZB,hZB⟩:∃ZB:Array Value,ZB=#[.int .u8 0,.int .u8 0,.int .u8 0,.int .u8 0,.int .u8 0,.int .u8 0,.int .u8 0,.int .u8 0,.int .u8 0,.int .u8 0,.int .u8 0,.int .u8 0,.int .u8 0,.int .u8 0,.int .u8 0,.int .u8 0]:=⟨_,rfl⟩
 have HZB:=zh hZB;rw[<-hZB]at HZ1 HZ2;clear hKY hEZ hK1 hK2 hZB;go_enter Tryz.func139,Tryz.ntmps139;go_upto_region 1 with (fail)
 obtain⟨bb,hbb⟩:=af w.heap.size
 refine ag (fun V=>ae V bb 23 KY/\ae V (bb+1) 23 ZB/\ae V (bb+1+1) 23 ZB/\Below w.heap.size w V) ⟨by rw[hbb];exact((ae.new _ _ _).alloc _).alloc _,by rw[hbb,HZB.out];exact(aq _ _ _ _ (by simp)).alloc _,by rw[hbb,HZB.out];exact aq _ _ _ _ (by simp),((bM _).alloc (by simp only[World.size_alloc];omega) _).alloc (by simp only[World.size_alloc];omega) _⟩ ?_;rintro W1 ⟨b1,b2,b3,b4⟩;have B1:=zh b1;have B2:=zh b2;have B3:=zh b3;have B4:=zh b4;have HBB:=zh hbb;rw[<-hbb];clear b1 b2 b3 b4 hbb;go_upto_region 2 with (first
  | (refine wpList_load_row rfl _ _ rfl bb rfl 23 KY (0,0) _ B1.out Tryz.underlying23 rfl HSK.out ?_)
  | (go_at_call 137;refine(HN.out _).mono ?_;rintro e w2 ⟨cg,rfl,hM,hcg,hB⟩;have CM:=zh hM;have E2:=zh hB;clear hM hcg hB)
  | (go_at_call 142;with_reducible refine(HEN.out _ cg CM.out).mono ?_;rintro e w3 ⟨rfl,hB⟩;have E3:=zh (E2.out.trans (hB.mono E2.out.size));clear hB)
  | (go_at_call 183;with_reducible refine(HD1.out _).mono ?_;rintro e w4 ⟨rfl,hB⟩;have E4:=zh (E3.out.trans (hB.mono E3.out.size));clear hB)
  | (refine wpList_store_row rfl _ _ _ rfl w4.heap.size K1 rfl rfl 190 _ (ae.new w4 _ _) HC1.out HZC.out HO1.out ?_))
 try simp only[Act.put]
 obtain⟨cb,hcb⟩:=af w4.heap.size
 refine ag (fun V=>ae V cb 190 K1/\Below W1.heap.size W1 V) ⟨by rw[hcb];exact ae.setRow (ae.new _ _ _),aj (E4.out.alloc E4.out.size _) E4.out.size _⟩ ?_;rintro V ⟨v1,v2⟩;have hne1:cb ≠ bb+1:=by rw[hcb];have:=E4.out.size;have:=B3.out.lt;omega
 have hne2:cb ≠ bb+1+1:=by rw[hcb];have:=E4.out.size;have:=B3.out.lt;omega
 have V1:=zh v1;have V2:=zh (B2.out.below v2 B2.out.lt);have V3:=zh (B3.out.below v2 B3.out.lt);have V4:=zh (B4.out.trans (v2.mono B4.out.size));rw[<-hcb];have HKR:=zh (show ∀W',aa (fun k=>k=bb+1\/k=bb+1+1) V W'->W'.rangeAt cb 0 K1.toList from fun W' hW=>ae.range (hW.blk V1.out (fun h=>by rcases h with h | h;exact hne1 h;exact hne2 h)) K1.toList (by rw[Array.toArray_toList]));have HSC:Hid ((Tryz.prog.info? 190).map (·.size)=some K1.toList.length):=zh (by rw[Array.length_toList];exact HC1.out);have HUC:=zh Tryz.underlying190;clear v1 v2 hcb hne1 hne2;obtain⟨w0,hw0⟩:=af V.drew
 have hb0:Below V.heap.size V w0:=by rw[hw0];exact(Below.refl _ _).drew
 refine wp_region_held_drew (S:=fun w'=>aa (fun k=>k=bb+1\/k=bb+1+1) V w') (by kernel_rfl) ((aa.refl (w:=V)).drew) (fun hHeld=>?_);rw[<-hw0];rw[<-hw0]at hHeld;clear hw0;refine' ed (i:=0) (x:=some 10) (v:=_) rfl (yieldsIf_load_mid (by rfl) _ _ rfl cb 0 rfl K1.toList _ (fun w h=>HKR.out w h) HUC.out rfl HSC.out) ?_;refine' ed (i:=1) (x:=some 11) (v:=_) rfl (yieldsIf_load_mid (by rfl) _ _ rfl cb 0 rfl K1.toList _ (fun w h=>HKR.out w h) HUC.out rfl HSC.out) ?_;refine bc (i:=2) (x:=some 12) rfl fun K hK=>?_;go_simp;refine(HD2.out w0).mono ?_;rintro e w5 ⟨rfl,hB⟩;dsimp only;have H5:aa (fun k=>k=bb+1\/k=bb+1+1) V w5:=hHeld.trans (aa.of_below (F:=fun _=>False) hB) (fun _ _ h=>h.elim);have C2:=V2.out.below (hb0.trans (hB.mono hb0.size)) V2.out.lt;have C3:=V3.out.below (hb0.trans (hB.mono hb0.size)) V3.out.lt;refine hK.out _ _ H5 (fun hHeld=>?_);clear hK K hB
 try simp only[Act.put,qa,qb,qc]
 refine bc (i:=3) (x:=none) rfl fun K hK=>?_;refine wp_store_row _ _ _ rfl (bb+1) K1 rfl rfl 23 ZB C2 HS1.out HZ1.out HO1.out ?_;have H6:aa (fun k=>k=bb+1\/k=bb+1+1) V (w5.setRow (bb+1) K1):=⟨H5.os,H5.tape,H5.output,by rw[size_setRow];exact H5.size,fun k hk hn=>(setRow_other w5 (bb+1) k K1 (fun e=>hn (.inl e))).trans (H5.block k hk hn)⟩
 have D2:ae (w5.setRow (bb+1) K1) (bb+1) 23 K1:=ae.setRow C2;have D3:ae (w5.setRow (bb+1) K1) (bb+1+1) 23 ZB:=ae.farRow C3 (by omega);refine hK.out _ _ H6 (fun hHeld=>?_);clear hK K
 try simp only[Act.put]
 refine bc (i:=4) (x:=none) rfl fun K hK=>?_;refine wp_store_row _ _ _ rfl (bb+1+1) K2 rfl rfl 23 ZB D3 HS2.out HZ2.out HO2.out ?_;have H7:aa (fun k=>k=bb+1\/k=bb+1+1) V ((w5.setRow (bb+1) K1).setRow (bb+1+1) K2):=⟨H6.os,H6.tape,H6.output,by rw[size_setRow];exact H6.size,fun k hk hn=>(setRow_other _ (bb+1+1) k K2 (fun e=>hn (.inr e))).trans (H6.block k hk hn)⟩
 have F2:ae ((w5.setRow (bb+1) K1).setRow (bb+1+1) K2) (bb+1) 23 K1:=ae.farRow D2 (by omega);have F3:ae ((w5.setRow (bb+1) K1).setRow (bb+1+1) K2) (bb+1+1) 23 K2:=ae.setRow D3;refine hK.out _ _ H7 (fun hHeld=>?_);clear hK K
 try simp only[Act.put]
 refine wpAnyH_done (by kernel_rfl) ?_ _;go_wp2;refine bodyPost_ret (v:=.tuple #[.agg K1,.agg K2]) (iJ (g1:=bb+1) (g2:=bb+1+1) (t:=23) (f1:=(0,0)) (f2:=(0,0)) Tryz.results139 _ _ _ _ _ rfl F2 rfl F3 Tryz.underlying23 rfl HS1.out HS2.out) rfl ⟨rfl,?_⟩
 exact aa.below V4.out H7 (fun k hk=>by rcases hk with h | h<;>(rw[h,HBB.out];omega)) V4.out.size
theorem vg (key b:Nat->Nat) (r:Nat) (hk:br key) (hb:br b) (hr:r<=16) (kb:Nat) (w:World) (h:ae w kb 23 (ar key)) :
  Calls Tryz.prog 138 #[.agg (ar b),.int .i64 r,.pointer (some ⟨kb,0,none⟩)] w fun e w'=>e=.returned (.agg (ar (bS key b r)))/\Below w.heap.size w w':=by
 have HSUB:=zh (fun V=>oM key hk V);have HUC:=zh Tryz.underlying190;have HUK:=zh Tryz.underlying23;have HSKY:=zh (gI key);have HSK1:=zh (gI (eN key));have HSK2:=zh (gI (gv key));have HO1:=zh (aI (eN key));have HO2:=zh (aI (gv key));have HPL1:=zh (fun V=>me b (eN key) hb (jC hk) V);have HPL2:=zh (fun(h16:r < 16) V=>me (eA b r 128) (gv key) (ng hb (by decide)) (qY hk) V);have HKB:=zh h;have HZ16:Hid (∀c,(#[.int .u8 0,.int .u8 0,.int .u8 0,.int .u8 0,.int .u8 0,.int .u8 0,.int .u8 0,.int .u8 0,.int .u8 0,.int .u8 0,.int .u8 0,.int .u8 0,.int .u8 0,.int .u8 0,.int .u8 0,.int .u8 0]:Array Value).size=(ar c).size):=zh (fun c=>by rw[ah];rfl);have hkl:=h.lt;obtain⟨KY,hKY⟩:∃X,X=ar key:=⟨_,rfl⟩
 obtain⟨K1,hK1⟩:∃X,X=ar (eN key):=⟨_,rfl⟩
 obtain⟨K2,hK2⟩:∃X,X=ar (gv key):=⟨_,rfl⟩
 obtain⟨BA,hBA⟩:∃X,X=ar b:=⟨_,rfl⟩
 have HK1:=zh hK1;have HK2:=zh hK2;have HBA:=zh hBA;rw[<-hKY]at HSUB HSKY HKB;rw[<-hK1]at HSUB HSK1 HO1 HPL1;rw[<-hK2]at HSUB HSK2 HO2 HPL2;rw[<-hBA]at HPL1;rw[<-hBA];have HZ1:Hid ((#[.int .u8 0,.int .u8 0,.int .u8 0,.int .u8 0,.int .u8 0,.int .u8 0,.int .u8 0,.int .u8 0,.int .u8 0,.int .u8 0,.int .u8 0,.int .u8 0,.int .u8 0,.int .u8 0,.int .u8 0,.int .u8 0]:Array Value).size=K1.size):=zh (by rw[hK1];exact HZ16.out _);have HZ2:Hid ((#[.int .u8 0,.int .u8 0,.int .u8 0,.int .u8 0,.int .u8 0,.int .u8 0,.int .u8 0,.int .u8 0,.int .u8 0,.int .u8 0,.int .u8 0,.int .u8 0,.int .u8 0,.int .u8 0,.int .u8 0,.int .u8 0]:Array Value).size=K2.size):=zh (by rw[hK2];exact HZ16.out _);obtain⟨ZB,hZB⟩:∃ZB:Array Value,ZB=#[.int .u8 0,.int .u8 0,.int .u8 0,.int .u8 0,.int .u8 0,.int .u8 0,.int .u8 0,.int .u8 0,.int .u8 0,.int .u8 0,.int .u8 0,.int .u8 0,.int .u8 0,.int .u8 0,.int .u8 0,.int .u8 0]:=⟨_,rfl⟩
 have HZB:=zh hZB;clear hKY hK1 hK2 hBA hZB h;go_enter Tryz.func138,Tryz.ntmps138;go_upto_region 1 with (fail)
 obtain⟨bb,hbb⟩:=af w.heap.size
 refine ag (fun V=>ae V bb 190 BA/\ae V (bb+1) 190 ZB/\ae V kb 23 KY/\Below w.heap.size w V) ⟨by rw[hbb];exact(ae.new _ _ _).alloc _,by rw[hbb,HZB.out];exact aq _ _ _ _ (by simp),(HKB.out.alloc _).alloc _,(bM _).alloc (by simp only[World.size_alloc];omega) _⟩ ?_;rintro W1 ⟨b1,b2,b3,b4⟩;have B1:=zh b1;have B2:=zh b2;have B3:=zh b3;have B4:=zh b4;have HBB:=zh hbb;rw[<-hbb];clear b1 b2 b3 b4 hbb;go_upto_region 2 with (first
  | (refine wpList_load_row rfl _ _ rfl kb rfl 23 KY (0,0) _ B3.out HUK.out rfl HSKY.out ?_)
  | (go_at_call 139;with_reducible refine(HSUB.out _).mono ?_;rintro e w2 ⟨rfl,hB⟩;have E2:=zh hB;clear hB)
  | (refine wpList_store_row rfl _ _ _ rfl w2.heap.size K1 rfl rfl 23 _ ((aq w2 _ _ _ rfl).alloc _) HSK1.out HZ1.out HO1.out ?_)
  | (refine wpList_store_row rfl _ _ _ rfl (w2.heap.size+1) K2 rfl rfl 23 _ (ae.farRow (aq _ _ _ _ (by simp)) (by omega)) HSK2.out HZ2.out HO2.out ?_))
 try simp only[Act.put]
 obtain⟨cb,hcb⟩:=af w2.heap.size
 have hbw2:=E2.out;refine ag (fun V=>ae V cb 23 K1/\ae V (cb+1) 23 K2/\Below w2.heap.size w2 V) (by
  rw[hcb]
  exact⟨ae.farRow (ae.setRow ((aq w2 _ _ _ rfl).alloc _)) (by omega),ae.setRow (ae.farRow (aq _ _ _ _ (by simp)) (by omega)),aj (aj (((Below.refl _ w2).alloc ao _).alloc (by simp) _) ao _) (by omega) _⟩) ?_
 rintro V ⟨v1,v2,v3⟩;have YK1:=zh v1;have YK2:=zh v2;have hV:=hbw2.trans (v3.mono hbw2.size);have VB:=zh (B1.out.below hV B1.out.lt);have VZ:=zh (B2.out.below hV B2.out.lt);have VW:=zh (B4.out.trans (hV.mono B4.out.size));have hcbb:cb ≠ bb/\cb+1 ≠ bb/\bb < cb:=by rw[hcb];have:=hbw2.size;have:=B2.out.lt;omega
 have HCB:=zh hcbb;rw[<-hcb];clear v1 v2 v3 hV hbw2 hcb hcbb;have r0:(0:Int)<=(r:Int):=by omega
 by_cases h16:r=16
 focus
  subst h16;have HXB:Hid ((Tryz.prog.info? 190).map (·.size)=some BA.size):=zh (by rw[HBA.out];exact fS b);have YB:=VB;have YZ:=VZ;have YW:=VW;have HRX:Hid ((Tryz.prog.info? 190).map (·.size)=some (ar (ce b (eN key))).size):=zh (fS _);have HRO:Hid ((ar (ce b (eN key))).all (·.oneCell')=true):=zh (aI _);have HZR:Hid (ZB.size=(ar (ce b (eN key))).size):=zh (by rw[HZB.out];exact HZ16.out _);have HRR:Hid (ar (bS key b 16)=ar (ce b (eN key))):=zh (by unfold bS;rw[if_pos rfl]);obtain⟨RX,hRX⟩:∃X,X=ar (ce b (eN key)):=⟨_,rfl⟩
  rw[<-hRX]at HRX HRO HZR HRR HPL1;clear hRX;go_wp2_with (first
   | (refine wpList_load_row rfl _ _ rfl bb rfl 190 BA (0,0) _ YB.out HUC.out rfl HXB.out ?_)
   | (refine wpList_load_row rfl _ _ rfl cb rfl 23 K1 (0,0) _ YK1.out HUK.out rfl HSK1.out ?_)
   | (go_at_call 140;with_reducible refine(HPL1.out _).mono ?_;rintro e w5 ⟨rfl,hB⟩;have E5:=zh hB;have Z5:=zh (YZ.out.below hB YZ.out.lt);clear hB)
   | (refine wpList_store_row rfl _ _ _ rfl (bb+1) RX rfl rfl 190 ZB Z5.out HRX.out HZR.out HRO.out ?_))
 rotate_left
 focus
  have hlt:r < 16:=by omega
  have r1:(r:Int) < 16:=by omega
  have r2:¬(r:Int)=16:=by omega
  have c1:=(VB.out.cell r).trans (by rw[HBA.out];exact aR b hlt:BA[r]? = some (.int .u8 ((b r:Nat):Int)));have f1:=VB.out.frozen r;go_upto_region 5 with (fail)
  have HU:=zh (show BA.setIfInBounds r (.int .u8 128)=ar (eA b r 128)from by rw[HBA.out];exact jF b r 128 hlt);refine ag (fun X=>ae X bb 190 (ar (eA b r 128))/\ae X (bb+1) 190 ZB/\ae X (cb+1) 23 K2/\Below w.heap.size w X) ⟨by rw[<-HU.out];exact VB.out.set_ r _,VZ.out.far (p:=⟨bb,r,none⟩) (by show ¬bb+1=bb;omega) _,YK2.out.far (p:=⟨bb,r,none⟩) (by show ¬cb+1=bb;have:=HCB.out;omega) _,VW.out.setCell (p:=⟨bb,r,none⟩) (by show w.heap.size<=bb;rw[HBB.out];exact Nat.le_refl _) _⟩ ?_;rintro X ⟨x1,x2,x3,x4⟩;have YB:=zh x1;have YZ:=zh x2;have YW:=zh x4;clear YK2;have YK2:=zh x3;have HXB:Hid ((Tryz.prog.info? 190).map (·.size)=some (ar (eA b r 128)).size):=zh (fS _);have HPL:=zh (HPL2.out hlt);obtain⟨UX,hUX⟩:∃X,X=ar (eA b r 128):=⟨_,rfl⟩
  rw[<-hUX]at YB HXB HPL;have HRX:Hid ((Tryz.prog.info? 190).map (·.size)=some (ar (ce (eA b r 128) (gv key))).size):=zh (fS _);have HRO:Hid ((ar (ce (eA b r 128) (gv key))).all (·.oneCell')=true):=zh (aI _);have HZR:Hid (ZB.size=(ar (ce (eA b r 128) (gv key))).size):=zh (by rw[HZB.out];exact HZ16.out _);have HRR:Hid (ar (bS key b r)=ar (ce (eA b r 128) (gv key))):=zh (by unfold bS;rw[if_neg h16]);obtain⟨RX,hRX⟩:∃X,X=ar (ce (eA b r 128) (gv key)):=⟨_,rfl⟩
  rw[<-hRX]at HRX HRO HZR HRR HPL;clear hRX hUX x1 x2 x3 x4 c1 f1;go_wp2_with (first
   | (refine wpList_load_row rfl _ _ rfl bb rfl 190 UX (0,0) _ YB.out HUC.out rfl HXB.out ?_)
   | (refine wpList_load_row rfl _ _ rfl (cb+1) rfl 23 K2 (0,0) _ YK2.out HUK.out rfl HSK2.out ?_)
   | (go_at_call 140;with_reducible refine(HPL.out _).mono ?_;rintro e w5 ⟨rfl,hB⟩;have E5:=zh hB;have Z5:=zh (YZ.out.below hB YZ.out.lt);clear hB)
   | (refine wpList_store_row rfl _ _ _ rfl (bb+1) RX rfl rfl 190 ZB Z5.out HRX.out HZR.out HRO.out ?_))
 all_goals
  refine bodyPost_ret (v:=.agg RX) (results_cell_row (g:=bb+1) (t:=190) (fr:=(0,0)) Tryz.results138 _ _ RX _ rfl (setRow_heap w5 (bb+1) ZB RX 190 (0,0) Z5.out) HUC.out rfl HRX.out) rfl ⟨by rw[HRR.out],?_⟩;have hx:=YW.out.trans (E5.out.mono YW.out.size)
  exact aj hx (by rw[HBB.out];omega) _
end Go.Proofs.YtiiojpnckbglcaaGreat
namespace Go.Proofs.YtiiojpnckbglcaaGreat
open Go.RowKit
theorem l5 (n:Nat):(Builtin.zeroCells (Value.int .u8 0).cells n).size=n:=by
 rw[size_zeroCells];simp[Value.cells]
theorem uC (n:Nat) (h0:0 < n) (hn:n<=1000000) (w:World) :
  Calls Tryz.prog 116 #[.slice none 0 0,.int .i64 (n:Int)] w fun e w'=>∃v,e=.returned v/\w'.ownsRow w.heap.size 5 1 v 0 []/\Below w.heap.size w w':=by
 obtain⟨i0,hi0,hz0,hz1,hz2⟩:=info_parts Tryz.infoByte;have hrz:Hid (∀ty,(Builtin.append_ #[44,3] ty #[.slice none 0 0,.int .i64 (n:Int)]).run Tryz.prog w =
   .ok (.slice (some ⟨w.heap.size,0,none⟩) n (grownCap w n 0 5)) (w.drew.alloc (.cells (Builtin.zeroCells (Value.int .u8 0).cells n++Builtin.zeroCells (Value.int .u8 0).cells (grownCap w n 0 5 - n)) 5))):=zh fun ty=>
  Lib.run_append_nil_zeros w 44 3 ty 5 i0 (.int .u8 0) .i64 .i64 Tryz.underlying44 Tryz.underlying3 hi0 hz0 n h0 (by rw[hz1];decide) (by omega) (by rw[hz2];omega)
 have hG:=grownCap_ge w n 0 5;have hG2:=grownCap_le_maxLen w n 0 5 (by unfold maxLen;omega);obtain⟨G,hGe⟩:=af (grownCap w n 0 5)
 rw[<-hGe]at hrz hG hG2;obtain⟨cs,hcs⟩:=af (Builtin.zeroCells (Value.int .u8 0).cells n++Builtin.zeroCells (Value.int .u8 0).cells (G-n))
 rw[<-hcs]at hrz;have hsz:cs.size=G*1:=by rw[hcs,Array.size_append,l5,l5];omega
 have HSZ:=zh hsz;have HG2:=zh hG2;have hn1:¬((n:Int) < 0):=by omega
 have hn2:(0:Int) < (n:Int):=by omega
 clear hGe hcs hsz hG2;go_enter Tryz.func116,Tryz.ntmps116;go_wp2_with (at_builtin;refine Lib.wpList_append_run _ rfl _ _ _ _ rfl _ _ rfl rfl _ _ (hrz.out _) ?_);go_ret
 exact⟨_,rfl,World.ownsRow_made (base:=w.heap.size) w.drew cs G ao HG2.out HSZ.out,((Below.refl _ w).drew).alloc ao _⟩
def ji (n:Nat->Nat):Nat->Nat
 | 0=>0
 | k+1=>ji n k+n k
def pD (n:Nat->Nat) (z:Nat->Nat->Int):Nat->List Value
 | 0=>[]
 | k+1=>pD n z k++(List.range (n k)).map (fun j=>.int .u8 (z k j))
theorem nt (n:Nat->Nat) (a:Nat):∀d,ji n a<=ji n (a+d)
 | 0=>Nat.le_refl _
 | d+1=>ba (nt n a d) (Nat.le_add_right _ _)
theorem lE (m sb:Nat) (A:Nat->Option Addr) (n c:Nat->Nat) (z:Nat->Nat->Int) (hm:m<=100) (h0:0 < ji n m) (hN:ji n m<=1000000) (w:World) (hsb:sb < w.heap.size)
  (hc:∀k,k < m->w.cell? ⟨sb,k,none⟩=some (.slice (A k) (n k) (c k))) (hr:∀k,k < m->au w w.heap.size (A k) (n k) (fun j=>.int .u8 (z k j))) :
  Calls Tryz.prog 85 #[.slice (some ⟨sb,0,none⟩) m m] w fun e w'=>∃v,e=.returned v/\w'.ownsRow w.heap.size 5 1 v (ji n m) (pD n z m)/\Below w.heap.size w w':=by
 obtain⟨i0,hi0,hz0,hz1,hz2⟩:=info_parts Tryz.infoByte;have HC:=zh hc;have HR:=zh hr;have HT:=zh (fun k d=>nt n k d);clear hc hr;go_enter Tryz.func85,Tryz.ntmps85;go_wp2;go_loop [3,11] (fun v3 v11=>∃k:Nat,k<=m/\v11=.int .i64 k/\v3=.int .i64 (ji n k:Nat)) (fun _ v=>m-(intOf v).toNat)
 case atStart=>exact⟨0,Nat.zero_le _,rfl,rfl⟩
 case round=>
  obtain⟨k,hk,rfl,rfl⟩:=hrel;by_cases hlt:k < m
  ·have hck:=HC.out k hlt;have ht:ji n k+n k<=1000000:=by have:=HT.out (k+1) (m-(k+1));rw[show k+1+(m-(k+1))=m by omega]at this;exact ba this hN
   obtain⟨t,htt⟩:=af (ji n k)
   have HTT:=zh (show ji n (k+1)=t+n k by rw[htt];rfl);rw[<-htt]at ht ⊢;clear htt;obtain⟨nk,hnk⟩:=af (n k)
   rw[<-hnk]at ht hck HTT;clear hnk;have hni:¬((t:Int)+(nk:Int) < 0):=by omega
   go_wp2;go_round
   case rel=>exact⟨k+1,by omega,by go_num,by rw[HTT.out];go_num⟩
   case measure=>simp[intOf];omega
  ·obtain rfl:k=m:=by omega
   have HGN:=zh (fun W=>uC (ji n k) h0 hN W);obtain⟨N,hNe⟩:=af (ji n k)
   rw[<-hNe]at HGN h0 hN ⊢;have HNE:=zh hNe;clear hNe;go_wp2_with (go_at_call 116;refine(HGN.out _).mono ?_;rintro e w1 ⟨v1,rfl,ho1,b1⟩;have HO1:=zh ho1;have B1:=zh b1;clear ho1 b1);go_loopw [6,27] (fun v6 v27 wr=>∃q:Nat,q<=k/\v27=.int .i64 q/\wr.ownsRow w.heap.size 5 1 v6 (ji n q) (pD n z q)/\Below w.heap.size w wr) (fun _ v _=>k-(intOf v).toNat)
   case atStart=>exact⟨0,Nat.zero_le _,rfl,HO1.out,B1.out⟩
   case round=>
    obtain⟨q,hq,rfl,hoq,hbq⟩:=hrel;by_cases hlt2:q < k
    ·have hcq:=(hbq.cell (p:=⟨sb,q,none⟩) hsb).trans (HC.out q hlt2);have hrq:=(HR.out q hlt2).next hbq;have ht:ji n q+n q<=1000000:=by have:=HT.out (q+1) (k-(q+1));rw[show q+1+(k-(q+1))=k by omega,<-HNE.out]at this;exact ba this hN
     have HOQ:=zh hoq;have HBQ:=zh hbq;have HRQ:=zh hrq;clear hoq hbq hrq;go_wp2_with (at_builtin;refine bD _ rfl _ _ 44 rfl w.heap.size 5 i0 (.int .u8 0) 1 Tryz.underlying44 hi0 hz0 hz1 hz2 rfl _ _ _ rfl HOQ.out wr.heap.size (A q) (n q) (c q) (fun j=>.int .u8 (z q j)) rfl HRQ.out (fun _=>rfl) (by unfold maxLen;omega) (by omega) HBQ.out.size ?_;intro v2 w2 hown2 hg2 _;have HO2:=zh hown2;have B2:=zh (HBQ.out.grown hg2 HBQ.out.size (fun k hk=>(HOQ.out.lt k hk).1));clear hown2 hg2);go_roundw
     case rel=>exact⟨q+1,by omega,by go_num,HO2.out,B2.out⟩
     case measure=>simp[intOf];omega
    ·obtain rfl:q=k:=by omega
     have HOQ:=zh hoq;have HBQ:=zh hbq;clear hoq hbq;go_wp2;go_ret
     exact⟨_,rfl,by rw[HNE.out];exact HOQ.out,HBQ.out⟩
def yq (n:Nat->Nat) (z:Nat->Nat->Int):Nat->Nat->Int
 | 0,_=>0
 | k+1,j=>if j < ji n k then yq n z k j else z k (j-ji n k)
theorem ik (n:Nat->Nat) (z:Nat->Nat->Int):∀k,(pD n z k).length=ji n k
 | 0=>rfl
 | k+1=>by show(pD n z k++_).length=ji n k+n k;rw[List.length_append,ik n z k];simp
theorem mh (n:Nat->Nat) (z:Nat->Nat->Int):∀k j,j < ji n k->(pD n z k)[j]? = some (.int .u8 (yq n z k j))
 | 0,j,h=>absurd h (by simp[ji])
 | k+1,j,h=>by
  show(pD n z k++_)[j]? = some (.int .u8 (if j < ji n k then _ else _));by_cases hj:j < ji n k
  ·rw[if_pos hj,List.getElem?_append_left (by rw[ik];exact hj)]
   exact mh n z k j hj
  ·rw[if_neg hj,List.getElem?_append_right (by rw[ik];omega),ik];have h2:j-ji n k < n k:=by have:j < ji n k+n k:=h;omega
   simp[h2]
end Go.Proofs.YtiiojpnckbglcaaGreat
namespace Go.Proofs.YtiiojpnckbglcaaGreat
open Go.RowKit
attribute [local go_sem ↓] Go.wp_at_zero Go.wp_at_succ
def pt:Prop:=∀(key:Nat->Nat) (ct b d:Nat),br key->ct < 4294967296->b < 32->d < 2->∀(A:Option Addr) (n c:Nat) (z:Nat->Nat) (V:World),n<=16384->(∀j,j < n->z j < 256)->au V V.heap.size A n (fun j=>.int .u8 ((z j:Nat):Int))->
 Calls Tryz.prog 84 #[.agg (ar key),.int .u32 ct,.int .i64 b,.int .i64 d,.slice A n c] V fun e w'=>e=.returned (.tuple #[.int .u32 (iy key ct b d z n:Nat),.int .i64 0])/\Below V.heap.size V w'
theorem py {w:World} {base n:Nat} {v:Value} {xs:List Value} (h:w.ownsRow base 5 1 v n xs):∃A c,v=.slice A n c/\SL w 5 1 A n c xs/\cj base A:=by
 obtain⟨hl,⟨hv,hn⟩ | ⟨g,cap,cur,hv,hg,hh,hc,hm,hs,ht⟩⟩:=h
 ·subst hn
  exact⟨none,0,hv,⟨hl,.inl ⟨rfl,rfl,rfl⟩⟩,fun a e=>by cases e⟩
 ·refine⟨_,cap,hv,⟨hl,.inr ⟨g,0,cur,rfl,hh,hc,hm,by rw[hs];omega,fun j hj=>?_⟩⟩,fun a e=>by cases e;exact hg⟩;rw[Nat.zero_add,<-ht,List.getElem?_take,if_pos hj,Array.getElem?_toList]
theorem kC (sb hb ct n c:Nat) (A:Option Addr) (z:Nat->Nat) (hn1:1<=n) (hn:n<=9300) (w:World) (hsb:sb < w.heap.size) (c0:w.cell? ⟨sb,0,none⟩=some (.slice (some ⟨hb,0,none⟩) 2 2)) (c1:w.cell? ⟨sb,1,none⟩=some (.slice A n c)) (hh:au w w.heap.size (some ⟨hb,0,none⟩) 2 (fun j=>.int .u8 ((iS ct j:Nat):Int))) (hr:au w w.heap.size A n (fun j=>.int .u8 ((z j:Nat):Int))) :
  Calls Tryz.prog 85 #[.slice (some ⟨sb,0,none⟩) 2 2] w fun e w'=>∃A2 c2,e=.returned (.slice A2 (2+n) c2)/\au w' w'.heap.size A2 (2+n) (fun j=>.int .u8 ((cD (iS ct) 2 z j:Nat):Int))/\Below w.heap.size w w':=by
 have ht:ji (fun k=>if k=0 then 2 else n) 2=2+n:=by
  show 0+2+n=2+n;omega
 refine(lE 2 sb (fun k=>if k=0 then some ⟨hb,0,none⟩ else A) (fun k=>if k=0 then 2 else n) (fun k=>if k=0 then 2 else c) (fun k j=>if k=0 then ((iS ct j:Nat):Int) else ((z j:Nat):Int)) (by decide) (by rw[ht];omega) (by rw[ht];omega) w hsb (fun k hk=>?_) (fun k hk=>?_)).mono ?_
 ·rcases (by omega:k=0\/k=1)with rfl | rfl
  ·exact c0
  ·exact c1
 ·rcases (by omega:k=0\/k=1)with rfl | rfl
  ·exact hh
  ·exact hr
 ·rintro e w' ⟨v,he,ho,hB⟩;rw[ht]at ho;obtain⟨A2,c2,hv,_,_,_,hrow⟩:=dn (f:=fun j=>.int .u8 ((cD (iS ct) 2 z j:Nat):Int)) ho (fun j hj=>by
   rw[mh _ _ 2 j (by rw[ht];exact hj)];unfold cD;show some (Value.int .u8 (if j < 0+2 then (if j < 0 then _ else ((iS ct (j-0):Nat):Int)) else ((z (j-(0+2)):Nat):Int)))=_;by_cases h2:j < 2
   ·rw[if_pos (by omega),if_neg (by omega),if_pos h2,Nat.sub_zero]
   ·rw[if_neg (by omega),if_neg h2,Nat.zero_add])
  exact⟨A2,c2,by rw[he,hv],hrow,hB⟩
theorem rV (hco:pt) (g:Nat) (s:TS) (W R:Nat->Prop) (w:World) (h:dK w g s W R) (hok:s.C.Ok) (hv:s.C.Valid) (hig:s.C.ig=true) (hcm:s.C.cm=false) (ct:Nat) (hct:ct < 4294967296) (A:Option Addr) (n c:Nat) (z:Nat->Int) (hp1:1<=n) (hp9:n<=9000) (hr:au w w.heap.size A n (fun j=>.int .u8 (z j))) (hz:∀j,j < n->0<=z j/\z j < 256) :
  Calls Tryz.prog 46 #[.pointer (some ⟨g,0,none⟩),.int .u32 ct,.slice A n c] w (fY s.C ct n z w):=by
 obtain⟨qA,qc,lq,pA,pc,lp,ub,cb,hT⟩:=h;have HT:=zh hT;have HR:=zh hr;have HZ:=zh hz;have c35:w.cell? ⟨g,35,none⟩=some (.bool false):=(hT.cC (j:=35) (by decide)).trans (by rw[show s.C.cell 35=.bool s.C.cm from rfl,hcm]);have c0:(0:Int)<=(ct:Int):=by omega
 have c1:(ct:Int) < 4294967296:=by omega
 have HIG:=zh hig;have HKL:=zh hok.keyN;have HCO:=zh hco;have HCK:Hid (br (nf s.C.code)):=zh (fun j hj=>fK hok.code hj);obtain⟨B,hB⟩:∃B:Nat,B=s.C.b.toNat:=⟨_,rfl⟩
 obtain⟨D,hD⟩:∃D:Nat,D=s.C.d.toNat:=⟨_,rfl⟩
 have HB:=zh hB;have HD:=zh hD;have HBI:Hid (s.C.b=(B:Int)):=zh (by rw[hB];have:=hv.1;omega);have HDI:Hid (s.C.d=(D:Int)):=zh (by rw[hD];have:=hv.2.2.1;omega);have HBL:Hid (B < 32):=zh (by rw[hB];have:=hv.2.1;omega);have HDL:Hid (D < 2):=zh (by rw[hD];have:=hv.2.2.1;omega);have HCT:=zh hct;have HP:Hid (1<=n/\n<=9000):=zh ⟨hp1,hp9⟩;have HNF:=zh (show(fun j=>Value.int .u8 (((nf z j:Nat)):Int))=(fun j=>Value.int .u8 ((nf z j:Nat):Int))from rfl);clear hT hr hz hig hB hD hv hct hp1 hp9 hcm HNF;go_enter Tryz.func46,Tryz.ntmps46;go_upto_region 8 with (fail)
 obtain⟨hb,hhb⟩:=af w.heap.size
 have HHB:=zh hhb;refine ag (fun V=>ae V hb 5 #[.int .u8 (128+(ct:Int) / 256 % 16),.int .u8 ((ct:Int) % 256)]/\Below w.heap.size w V) ⟨by rw[hhb];exact ae.new _ _ _,(Below.refl _ w).alloc ao _⟩ ?_;rintro V ⟨b1,b2⟩;have B1:=zh b1;have B2:=zh b2;have HCL:=zh (dc A n c z V (by have:=HP.out;omega) (HR.out.next b2));rw[<-hhb];clear b1 b2 hhb c35;go_upto_region 9 with (go_at_call 39;refine(HCL.out).mono ?_;rintro e V2 ⟨A2,c2,rfl,hc2,hR2,hbk⟩;have HO2:=zh hR2;have HBK:=zh hbk;clear hc2 hR2 hbk)
 have T2:=zh (HT.out.below (B2.out.trans (HBK.out.mono B2.out.size)));have c34:V2.cell? ⟨g,34,none⟩=some (.bool true):=(T2.out.cC (j:=34) (by decide)).trans (by rw[show s.C.cell 34=.bool s.C.ig from rfl,HIG.out]);go_upto_region 10 with (fail)
 have HBW:=zh (B2.out.trans (HBK.out.mono B2.out.size));have HBH:=zh (B1.out.below HBK.out B1.out.lt);obtain⟨w0,hw0⟩:=af V2.drew
 have hb0:Below V2.heap.size V2 w0:=by rw[hw0];exact(Below.refl _ _).drew
 have HKR:=zh (show ∀W',Below V2.heap.size V2 W'->W'.rangeAt g 18 (ar (nf s.C.code)).toList from fun W' hW j v hv=>by
  have hj:j < 16:=by have:=(List.getElem?_eq_some_iff.1 hv).1;rw[Array.length_toList,ah]at this;exact this
  rw[(T2.out.below hW).cC (j:=18+j) (by omega),<-hv,Array.getElem?_toList,aR _ hj];unfold aZ.cell;rw[if_neg (by omega),if_neg (by omega),if_neg (by omega),if_pos (by omega),show 18+j-18=j by omega,cv hok.code hj])
 have HC0:=zh (show ∀W',Below V2.heap.size V2 W'->W'.cell? ⟨g,0,none⟩=some (.int .i64 (B:Int))from fun W' hW=>((T2.out.below hW).cC (j:=0) (by decide)).trans (by rw[show s.C.cell 0=.int .i64 s.C.b from rfl,HBI.out]));have HC1:=zh (show ∀W',Below V2.heap.size V2 W'->W'.cell? ⟨g,1,none⟩=some (.int .i64 (D:Int))from fun W' hW=>((T2.out.below hW).cC (j:=1) (by decide)).trans (by rw[show s.C.cell 1=.int .i64 s.C.d from rfl,HDI.out]));have HS16:Hid ((Tryz.prog.info? 23).map (·.size)=some (ar (nf s.C.code)).toList.length):=zh (by rw[Array.length_toList,ah];kernel_rfl);have HUK:=zh Tryz.underlying23;have HDR:=zh (show au V2 V2.heap.size A n (fun j=>.int .u8 ((nf z j:Nat):Int))from au.congr (HR.out.next HBW.out) (fun j hj=>by rw[cv HZ.out hj]));have HHR:=zh (show au V2 V2.heap.size (some ⟨hb,0,none⟩) 2 (fun j=>.int .u8 ((iS ct j:Nat):Int))from fun _=>⟨hb,0,rfl,HBH.out.lt,fun j hj=>by
  rcases (by omega:j=0\/j=1)with rfl | rfl
  ·exact(HBH.out.cell 0).trans (by simp[iS])
  ·exact(HBH.out.cell 1).trans (by simp[iS])⟩)
 obtain⟨KB,hKB⟩:∃q,q=ar (nf s.C.code):=⟨_,rfl⟩
 have HKB:=zh hKB;rw[<-hKB]at HKR HS16;clear hKB;refine wp_region_held_drew (S:=fun w'=>Below V2.heap.size V2 w') (by kernel_rfl) ((Below.refl _ V2).drew) (fun hHeld=>?_);rw[<-hw0];rw[<-hw0]at hHeld;clear hw0 c34;refine(cr (i:=0) (oi:=⟨some 52,_,_,_,_,_⟩) (v:=.pointer (some ⟨g,0,none⟩)) rfl (Or.inl ⟨by rfl,fun W hW=>(by rfl)⟩) (by assumption) ?_)
 try simp only[Act.put,List.setIfInBounds_toArray,List.set_cons_succ,List.set_cons_zero]
 refine(cr (i:=1) (oi:=⟨some 53,_,_,_,_,_⟩) (v:=.pointer (some ⟨g,0,none⟩)) rfl (Or.inl ⟨by rfl,fun W hW=>(by go_simp)⟩) (by assumption) ?_)
 try simp only[Act.put,List.setIfInBounds_toArray,List.set_cons_succ,List.set_cons_zero]
 refine(cr (i:=2) (oi:=⟨some 54,_,_,_,_,_⟩) (v:=.pointer (some ⟨g,0,none⟩)) rfl (Or.inl ⟨by rfl,fun W hW=>(by go_simp)⟩) (by assumption) ?_)
 try simp only[Act.put,List.setIfInBounds_toArray,List.set_cons_succ,List.set_cons_zero]
 refine(cr (i:=3) (oi:=⟨some 55,_,_,_,_,_⟩) (v:=.pointer (some ⟨g,18,none⟩)) rfl (Or.inl ⟨by rfl,fun W hW=>(by go_simp)⟩) (by assumption) ?_)
 try simp only[Act.put,List.setIfInBounds_toArray,List.set_cons_succ,List.set_cons_zero]
 refine'(cr (i:=4) (oi:=⟨some 56,_,_,_,_,_⟩) (v:=_) rfl (yieldsIf_load_mid (by rfl) _ _ rfl g 18 rfl KB.toList _ (fun w h=>HKR.out w h) HUK.out rfl HS16.out) (by assumption) ?_)
 try simp only[Act.put,List.setIfInBounds_toArray,List.set_cons_succ,List.set_cons_zero]
 refine(cr (i:=5) (oi:=⟨some 57,_,_,_,_,_⟩) (v:=.int .u32 ct) rfl (Or.inl ⟨by rfl,fun W hW=>(by rfl)⟩) (by assumption) ?_)
 try simp only[Act.put,List.setIfInBounds_toArray,List.set_cons_succ,List.set_cons_zero]
 refine(cr (i:=6) (oi:=⟨some 58,_,_,_,_,_⟩) (v:=.pointer (some ⟨g,0,none⟩)) rfl (Or.inl ⟨by rfl,fun W hW=>(by rfl)⟩) (by assumption) ?_)
 try simp only[Act.put,List.setIfInBounds_toArray,List.set_cons_succ,List.set_cons_zero]
 refine(cr (i:=7) (oi:=⟨some 59,_,_,_,_,_⟩) (v:=.pointer (some ⟨g,0,none⟩)) rfl (Or.inl ⟨by rfl,fun W hW=>(by go_simp)⟩) (by assumption) ?_)
 try simp only[Act.put,List.setIfInBounds_toArray,List.set_cons_succ,List.set_cons_zero]
 refine(cr (i:=8) (oi:=⟨some 60,_,_,_,_,_⟩) (v:=.pointer (some ⟨g,0,none⟩)) rfl (Or.inl ⟨by rfl,fun W hW=>(by go_simp)⟩) (by assumption) ?_)
 try simp only[Act.put,List.setIfInBounds_toArray,List.set_cons_succ,List.set_cons_zero]
 refine(cr (i:=9) (oi:=⟨some 61,_,_,_,_,_⟩) (v:=.pointer (some ⟨g,0,none⟩)) rfl (Or.inl ⟨by rfl,fun W hW=>(by go_simp)⟩) (by assumption) ?_)
 try simp only[Act.put,List.setIfInBounds_toArray,List.set_cons_succ,List.set_cons_zero]
 refine(cr (i:=10) (oi:=⟨some 62,_,_,_,_,_⟩) (v:=.int .i64 (B:Int)) rfl (Or.inl ⟨by rfl,fun W hW=>(by have:=HC0.out W hW;go_simp)⟩) (by assumption) ?_)
 try simp only[Act.put,List.setIfInBounds_toArray,List.set_cons_succ,List.set_cons_zero]
 refine(cr (i:=11) (oi:=⟨some 63,_,_,_,_,_⟩) (v:=.pointer (some ⟨g,0,none⟩)) rfl (Or.inl ⟨by rfl,fun W hW=>(by rfl)⟩) (by assumption) ?_)
 try simp only[Act.put,List.setIfInBounds_toArray,List.set_cons_succ,List.set_cons_zero]
 refine(cr (i:=12) (oi:=⟨some 64,_,_,_,_,_⟩) (v:=.pointer (some ⟨g,0,none⟩)) rfl (Or.inl ⟨by rfl,fun W hW=>(by go_simp)⟩) (by assumption) ?_)
 try simp only[Act.put,List.setIfInBounds_toArray,List.set_cons_succ,List.set_cons_zero]
 refine(cr (i:=13) (oi:=⟨some 65,_,_,_,_,_⟩) (v:=.pointer (some ⟨g,0,none⟩)) rfl (Or.inl ⟨by rfl,fun W hW=>(by go_simp)⟩) (by assumption) ?_)
 try simp only[Act.put,List.setIfInBounds_toArray,List.set_cons_succ,List.set_cons_zero]
 refine(cr (i:=14) (oi:=⟨some 66,_,_,_,_,_⟩) (v:=.pointer (some ⟨g,1,none⟩)) rfl (Or.inl ⟨by rfl,fun W hW=>(by go_simp)⟩) (by assumption) ?_)
 try simp only[Act.put,List.setIfInBounds_toArray,List.set_cons_succ,List.set_cons_zero]
 refine(cr (i:=15) (oi:=⟨some 67,_,_,_,_,_⟩) (v:=.int .i64 (D:Int)) rfl (Or.inl ⟨by rfl,fun W hW=>(by have:=HC1.out W hW;go_simp)⟩) (by assumption) ?_)
 try simp only[Act.put,List.setIfInBounds_toArray,List.set_cons_succ,List.set_cons_zero]
 refine(cr (i:=16) (oi:=⟨some 68,_,_,_,_,_⟩) (v:=.slice (some ⟨hb,0,none⟩) 2 2) rfl (Or.inl ⟨by rfl,fun W hW=>(by rfl)⟩) (by assumption) ?_)
 try simp only[Act.put,List.setIfInBounds_toArray,List.set_cons_succ,List.set_cons_zero]
 refine(cr (i:=17) (oi:=⟨some 69,_,_,_,_,_⟩) (v:=.slice A n c) rfl (Or.inl ⟨by rfl,fun W hW=>(by rfl)⟩) (by assumption) ?_)
 try simp only[Act.put,List.setIfInBounds_toArray,List.set_cons_succ,List.set_cons_zero]
 refine bc (i:=18) (x:=some 70) rfl fun K hK=>?_;go_simp;obtain⟨w1,hv⟩:∃X,X=w0.alloc (.cells #[.slice (some ⟨hb,0,none⟩) 2 2,.slice A n c] 44):=⟨_,rfl⟩
 obtain⟨sb,hsb⟩:=af w0.heap.size
 have hN:ae w1 sb 44 #[.slice (some ⟨hb,0,none⟩) 2 2,.slice A n c]:=by rw[hv,hsb];exact ae.new _ _ _
 have hE:Below V2.heap.size V2 w1:=by rw[hv];exact hHeld.alloc hHeld.size _
 rw[<-hv,<-hsb];refine hK.out _ _ hE (fun hHeld=>?_);clear hK K hE hv hsb
 try simp only[Act.put,List.setIfInBounds_toArray,List.set_cons_succ,List.set_cons_zero]
 refine bc (i:=19) (x:=some 71) rfl fun K hK=>?_;go_simp;refine(kC sb hb ct n c A (nf z) HP.out.1 (by have:=HP.out;omega) w1 hN.lt (hN.cell 0) (hN.cell 1) (HHR.out.next hHeld) (HDR.out.next hHeld)).mono ?_;rintro e w2 ⟨A5,c5,rfl,hR5,hB⟩;dsimp only;have HR5:=zh hR5;have hE:Below V2.heap.size V2 w2:=hHeld.trans (hB.mono hHeld.size);refine hK.out _ _ hE (fun hHeld=>?_);clear hK K hE hB hR5 hN
 try simp only[Act.put,List.setIfInBounds_toArray,List.set_cons_succ,List.set_cons_zero]
 refine bc (i:=20) (x:=some 72) rfl fun K hK=>?_;go_simp;rw[HKB.out];refine(HCO.out (nf s.C.code) ct B D HCK.out HCT.out HBL.out HDL.out A5 (2+n) c5 (cD (iS ct) 2 (nf z)) w2 (by have:=HP.out;omega) (ge (fun j _=>mF ct j) (fun j hj=>fK HZ.out hj)) HR5.out).mono ?_;rintro e w3 ⟨rfl,hB⟩;dsimp only;obtain⟨M,hM⟩:=af (iy (nf s.C.code) ct B D (cD (iS ct) 2 (nf z)) (2+n))
 have HM:=zh hM;have M1:(M:Int) < 4294967296:=by
  have:M < 4294967296:=by rw[hM];exact nZ _ _ _ HCK.out (ge (fun j _=>mF ct j) (fun j hj=>fK HZ.out hj))
  omega
 have M0:(0:Int)<=(M:Int):=by omega
 rw[<-hM];have H3:Below V2.heap.size V2 w3:=hHeld.trans (hB.mono hHeld.size);refine hK.out _ _ H3 (fun hHeld=>?_);clear hK K hB hM
 try simp only[Act.put,List.setIfInBounds_toArray,List.set_cons_succ,List.set_cons_zero]
 refine(cr (i:=21) (oi:=⟨some 51,_,_,_,_,_⟩) (v:=.tuple #[.int .u32 M,.int .i64 0]) rfl (Or.inl ⟨by rfl,fun W hW=>(by rfl)⟩) (by assumption) ?_)
 try simp only[Act.put,List.setIfInBounds_toArray,List.set_cons_succ,List.set_cons_zero]
 refine(cr (i:=22) (oi:=⟨some 73,_,_,_,_,_⟩) (v:=.int .u32 M) rfl (Or.inl ⟨by rfl,fun W hW=>(by go_simp)⟩) (by assumption) ?_)
 try simp only[Act.put,List.setIfInBounds_toArray,List.set_cons_succ,List.set_cons_zero]
 refine(cr (i:=24) (oi:=⟨some 13,_,_,_,_,_⟩) (v:=.int .u32 M) rfl (Or.inl ⟨by rfl,fun W hW=>(by rfl)⟩) (by assumption) ?_)
 try simp only[Act.put,List.setIfInBounds_toArray,List.set_cons_succ,List.set_cons_zero]
 refine(cr (i:=23) (oi:=⟨some 74,_,_,_,_,_⟩) (v:=.int .i64 0) rfl (Or.inl ⟨by rfl,fun W hW=>(by go_simp)⟩) (by assumption) ?_)
 try simp only[Act.put,List.setIfInBounds_toArray,List.set_cons_succ,List.set_cons_zero]
 refine(cr (i:=25) (oi:=⟨some 14,_,_,_,_,_⟩) (v:=.int .i64 0) rfl (Or.inl ⟨by rfl,fun W hW=>(by rfl)⟩) (by assumption) ?_)
 try simp only[Act.put,List.setIfInBounds_toArray,List.set_cons_succ,List.set_cons_zero]
 refine wpAnyH_done (by kernel_rfl) ?_ _;have HH3:=zh H3;clear H3 hHeld;go_upto_region 13 with (fail)
 obtain⟨A6,c6,hv6,hsl6,hfr6⟩:=py HO2.out
 cases hv6
 have HSL3:=zh (hsl6.next HH3.out);have HFR6:=zh hfr6;clear hsl6 hfr6;have HNP:=zh (show n+4<=9004 by have:=HP.out;omega);obtain⟨i0,hi,hz0,hz1,hz2⟩:=info_parts Tryz.infoByte;obtain⟨X6,hX6⟩:=af (w3.alloc (.cells #[.int .u8 ((M:Int) / 16777216),.int .u8 ((M:Int) / 65536 % 256),.int .u8 ((M:Int) / 256 % 256),.int .u8 ((M:Int) % 256)] 5))
 have hb6:Below w3.heap.size w3 X6:=by rw[hX6];exact bM _
 have HX6:=zh hX6;have hNB:ae X6 w3.heap.size 5 #[.int .u8 ((M:Int) / 16777216),.int .u8 ((M:Int) / 65536 % 256),.int .u8 ((M:Int) / 256 % 256),.int .u8 ((M:Int) % 256)]:=by rw[hX6];exact ae.new _ _ _
 have HSRC:Hid (Src Tryz.prog 1 44 (.slice (some ⟨w3.heap.size,0,none⟩) 4 4) 4 [.int .u8 ((M:Int) / 16777216),.int .u8 ((M:Int) / 65536 % 256),.int .u8 ((M:Int) / 256 % 256),.int .u8 ((M:Int) % 256)] X6):=zh (Src.ofSlice _ Tryz.underlying44 ⟨w3.heap.size,0,none⟩ 4 4 _ rfl (fun j u hu=>by
  have hj:j < 4:=(List.getElem?_eq_some_iff.1 hu).1;rw[Addr.add_lit,Nat.zero_add,hNB.cell j];simpa using hu) (by simp[Value.oneCell']))
 have HSL6:=zh (HSL3.out.next hb6);have HB6:=zh hb6;clear hNB hX6 hb6 c0 c1;go_upto_region 14 with (rw[<-HX6.out];refine aY rfl _ _ _ _ rfl X6 5 i0 (.int .u8 0) 1 1 Tryz.underlying44 hi hz0 hz1 hz2 rfl A2 n c2 _ rfl HSL6.out _ rfl 4 _ HSRC.out (by decide) (by have:=HNP.out;unfold maxLen;omega) (by have:=HNP.out;omega) ?_;intro A7 c7 w7 hSL7 hK7 hA7;have HSL7:=zh hSL7;have HK7:=zh hK7;have HA7:=zh hA7;clear hSL7 hK7 hA7)
 have HX3:=zh (HBW.out.trans (HH3.out.mono HBW.out.size));have HV6:=zh (HBK.out.trans ((HH3.out.trans (HB6.out.mono HH3.out.size)).mono HBK.out.size));have HV7:=zh (aa.below HV6.out HK7.out (fun k ⟨a,ha,e⟩=>by rw[e];exact HFR6.out a ha) HV6.out.size);have HBW7:=zh (B2.out.trans (HV7.out.mono B2.out.size));have T7:=zh (HT.out.below HBW7.out);have HBH7:=zh (B1.out.below HV7.out B1.out.lt);obtain⟨PZ,hPZ⟩:=af (fz s.C ct n (nf z))
 have HPZ:=zh hPZ;have HPL:=zh (show ∀j,j < n+4->PZ j < 256 from fun j _=>by rw[hPZ];exact l6 (fun j hj=>fK HZ.out hj) j);have HR7:=zh (show au w7 w7.heap.size A7 (n+4) (fun j=>.int .u8 ((PZ j:Nat):Int))from i5 HSL7.out (fun j hj=>by
  rw[hPZ];unfold fz cD;by_cases hjn:j < n
  ·rw[if_pos hjn,List.getElem?_append_left (by simpa using hjn)];simp[hjn,cv HZ.out hjn]
  ·rw[if_neg hjn,List.getElem?_append_right (by simp;omega),List.length_map,List.length_range];have hm:=HM.out;rw[HB.out,HD.out]at hm;unfold cD at hm;rw[<-hm];rcases (by omega:j=n\/j=n+1\/j=n+2\/j=n+3)with rfl | rfl | rfl | rfl
   ·rw[Nat.sub_self];unfold gy;simp;omega
   ·rw[show n+1-n=1 by omega];unfold gy;simp
   ·rw[show n+2-n=2 by omega];unfold gy;simp
   ·rw[show n+3-n=3 by omega];unfold gy;simp))
 clear hPZ;obtain⟨wz,hwz⟩:=af w7.drew
 have hbz:Below w7.heap.size w7 wz:=by rw[hwz];exact(Below.refl _ _).drew
 have HKR7:=zh (show ∀W',Below w7.heap.size w7 W'->W'.rangeAt g 2 (ar (nf s.C.key)).toList from fun W' hW j v hv=>by
  have hj:j < 16:=by have:=(List.getElem?_eq_some_iff.1 hv).1;rw[Array.length_toList,ah]at this;exact this
  rw[(T7.out.below hW).cC (j:=2+j) (by omega),<-hv,Array.getElem?_toList,aR _ hj];unfold aZ.cell;rw[if_neg (by omega),if_neg (by omega),if_pos (by omega),show 2+j-2=j by omega,cv hok.key hj])
 have HC07:=zh (show ∀W',Below w7.heap.size w7 W'->W'.cell? ⟨g,0,none⟩=some (.int .i64 (B:Int))from fun W' hW=>((T7.out.below hW).cC (j:=0) (by decide)).trans (by rw[show s.C.cell 0=.int .i64 s.C.b from rfl,HBI.out]));have HC17:=zh (show ∀W',Below w7.heap.size w7 W'->W'.cell? ⟨g,1,none⟩=some (.int .i64 (D:Int))from fun W' hW=>((T7.out.below hW).cC (j:=1) (by decide)).trans (by rw[show s.C.cell 1=.int .i64 s.C.d from rfl,HDI.out]));have HS17:Hid ((Tryz.prog.info? 23).map (·.size)=some (ar (nf s.C.key)).toList.length):=zh (by rw[Array.length_toList,ah];kernel_rfl);have HCR:=zh (ir (nf s.C.key) ct B D HKL.out HCT.out HBL.out HDL.out A7 (n+4) c7 PZ (by omega) (by have:=HP.out;omega) HPL.out wz (HR7.out.next hbz));obtain⟨KC,hKC⟩:∃q,q=ar (nf s.C.key):=⟨_,rfl⟩
 rw[<-hKC]at HKR7 HS17 HCR;clear hKC;refine wp_region_held_drew (S:=fun w'=>Below w7.heap.size w7 w') (by kernel_rfl) ((Below.refl _ w7).drew) (fun hHeld=>?_);rw[<-hwz];rw[<-hwz]at hHeld;clear hwz;refine(cr (i:=0) (oi:=⟨some 93,_,_,_,_,_⟩) (v:=.pointer (some ⟨g,0,none⟩)) rfl (Or.inl ⟨by rfl,fun W hW=>(by rfl)⟩) (by assumption) ?_)
 try simp only[Act.put,List.setIfInBounds_toArray,List.set_cons_succ,List.set_cons_zero]
 refine(cr (i:=1) (oi:=⟨some 94,_,_,_,_,_⟩) (v:=.pointer (some ⟨g,0,none⟩)) rfl (Or.inl ⟨by rfl,fun W hW=>(by go_simp)⟩) (by assumption) ?_)
 try simp only[Act.put,List.setIfInBounds_toArray,List.set_cons_succ,List.set_cons_zero]
 refine(cr (i:=2) (oi:=⟨some 95,_,_,_,_,_⟩) (v:=.pointer (some ⟨g,0,none⟩)) rfl (Or.inl ⟨by rfl,fun W hW=>(by go_simp)⟩) (by assumption) ?_)
 try simp only[Act.put,List.setIfInBounds_toArray,List.set_cons_succ,List.set_cons_zero]
 refine(cr (i:=3) (oi:=⟨some 96,_,_,_,_,_⟩) (v:=.pointer (some ⟨g,2,none⟩)) rfl (Or.inl ⟨by rfl,fun W hW=>(by go_simp)⟩) (by assumption) ?_)
 try simp only[Act.put,List.setIfInBounds_toArray,List.set_cons_succ,List.set_cons_zero]
 refine'(cr (i:=4) (oi:=⟨some 97,_,_,_,_,_⟩) (v:=_) rfl (yieldsIf_load_mid (by rfl) _ _ rfl g 2 rfl KC.toList _ (fun w h=>HKR7.out w h) HUK.out rfl HS17.out) (by assumption) ?_)
 try simp only[Act.put,List.setIfInBounds_toArray,List.set_cons_succ,List.set_cons_zero]
 refine(cr (i:=5) (oi:=⟨some 98,_,_,_,_,_⟩) (v:=.int .u32 ct) rfl (Or.inl ⟨by rfl,fun W hW=>(by rfl)⟩) (by assumption) ?_)
 try simp only[Act.put,List.setIfInBounds_toArray,List.set_cons_succ,List.set_cons_zero]
 refine(cr (i:=6) (oi:=⟨some 99,_,_,_,_,_⟩) (v:=.pointer (some ⟨g,0,none⟩)) rfl (Or.inl ⟨by rfl,fun W hW=>(by rfl)⟩) (by assumption) ?_)
 try simp only[Act.put,List.setIfInBounds_toArray,List.set_cons_succ,List.set_cons_zero]
 refine(cr (i:=7) (oi:=⟨some 100,_,_,_,_,_⟩) (v:=.pointer (some ⟨g,0,none⟩)) rfl (Or.inl ⟨by rfl,fun W hW=>(by go_simp)⟩) (by assumption) ?_)
 try simp only[Act.put,List.setIfInBounds_toArray,List.set_cons_succ,List.set_cons_zero]
 refine(cr (i:=8) (oi:=⟨some 101,_,_,_,_,_⟩) (v:=.pointer (some ⟨g,0,none⟩)) rfl (Or.inl ⟨by rfl,fun W hW=>(by go_simp)⟩) (by assumption) ?_)
 try simp only[Act.put,List.setIfInBounds_toArray,List.set_cons_succ,List.set_cons_zero]
 refine(cr (i:=9) (oi:=⟨some 102,_,_,_,_,_⟩) (v:=.pointer (some ⟨g,0,none⟩)) rfl (Or.inl ⟨by rfl,fun W hW=>(by go_simp)⟩) (by assumption) ?_)
 try simp only[Act.put,List.setIfInBounds_toArray,List.set_cons_succ,List.set_cons_zero]
 refine(cr (i:=10) (oi:=⟨some 103,_,_,_,_,_⟩) (v:=.int .i64 (B:Int)) rfl (Or.inl ⟨by rfl,fun W hW=>(by have:=HC07.out W hW;go_simp)⟩) (by assumption) ?_)
 try simp only[Act.put,List.setIfInBounds_toArray,List.set_cons_succ,List.set_cons_zero]
 refine(cr (i:=11) (oi:=⟨some 104,_,_,_,_,_⟩) (v:=.pointer (some ⟨g,0,none⟩)) rfl (Or.inl ⟨by rfl,fun W hW=>(by rfl)⟩) (by assumption) ?_)
 try simp only[Act.put,List.setIfInBounds_toArray,List.set_cons_succ,List.set_cons_zero]
 refine(cr (i:=12) (oi:=⟨some 105,_,_,_,_,_⟩) (v:=.pointer (some ⟨g,0,none⟩)) rfl (Or.inl ⟨by rfl,fun W hW=>(by go_simp)⟩) (by assumption) ?_)
 try simp only[Act.put,List.setIfInBounds_toArray,List.set_cons_succ,List.set_cons_zero]
 refine(cr (i:=13) (oi:=⟨some 106,_,_,_,_,_⟩) (v:=.pointer (some ⟨g,0,none⟩)) rfl (Or.inl ⟨by rfl,fun W hW=>(by go_simp)⟩) (by assumption) ?_)
 try simp only[Act.put,List.setIfInBounds_toArray,List.set_cons_succ,List.set_cons_zero]
 refine(cr (i:=14) (oi:=⟨some 107,_,_,_,_,_⟩) (v:=.pointer (some ⟨g,1,none⟩)) rfl (Or.inl ⟨by rfl,fun W hW=>(by go_simp)⟩) (by assumption) ?_)
 try simp only[Act.put,List.setIfInBounds_toArray,List.set_cons_succ,List.set_cons_zero]
 refine(cr (i:=15) (oi:=⟨some 108,_,_,_,_,_⟩) (v:=.int .i64 (D:Int)) rfl (Or.inl ⟨by rfl,fun W hW=>(by have:=HC17.out W hW;go_simp)⟩) (by assumption) ?_)
 try simp only[Act.put,List.setIfInBounds_toArray,List.set_cons_succ,List.set_cons_zero]
 refine(cr (i:=16) (oi:=⟨some 109,_,_,_,_,_⟩) (v:=.slice A7 (n+4:Nat) c7) rfl (Or.inl ⟨by rfl,fun W hW=>(by rfl)⟩) (by assumption) ?_)
 try simp only[Act.put,List.setIfInBounds_toArray,List.set_cons_succ,List.set_cons_zero]
 refine bc (i:=17) (x:=some 110) rfl fun K hK=>?_;go_simp;refine(HCR.out).mono ?_;rintro e w8 ⟨A3,c3,rfl,hc3,hF3,hR3,hB3⟩;dsimp only;have HR8:=zh hR3;have H8:Below w7.heap.size w7 w8:=hHeld.trans (hB3.mono hbz.size);refine hK.out _ _ H8 (fun hHeld=>?_);clear hK K hR3 hF3 hc3 hB3
 try simp only[Act.put,List.setIfInBounds_toArray,List.set_cons_succ,List.set_cons_zero]
 refine(cr (i:=18) (oi:=⟨some 92,_,_,_,_,_⟩) (v:=.tuple #[.slice A3 (n+4:Nat) c3,.int .i64 0]) rfl (Or.inl ⟨by rfl,fun W hW=>(by rfl)⟩) (by assumption) ?_)
 try simp only[Act.put,List.setIfInBounds_toArray,List.set_cons_succ,List.set_cons_zero]
 refine(cr (i:=19) (oi:=⟨some 111,_,_,_,_,_⟩) (v:=.slice A3 (n+4:Nat) c3) rfl (Or.inl ⟨by rfl,fun W hW=>(by go_simp)⟩) (by assumption) ?_)
 try simp only[Act.put,List.setIfInBounds_toArray,List.set_cons_succ,List.set_cons_zero]
 refine(cr (i:=21) (oi:=⟨some 15,_,_,_,_,_⟩) (v:=.slice A3 (n+4:Nat) c3) rfl (Or.inl ⟨by rfl,fun W hW=>(by rfl)⟩) (by assumption) ?_)
 try simp only[Act.put,List.setIfInBounds_toArray,List.set_cons_succ,List.set_cons_zero]
 refine(cr (i:=20) (oi:=⟨some 112,_,_,_,_,_⟩) (v:=.int .i64 0) rfl (Or.inl ⟨by rfl,fun W hW=>(by go_simp)⟩) (by assumption) ?_)
 try simp only[Act.put,List.setIfInBounds_toArray,List.set_cons_succ,List.set_cons_zero]
 refine(cr (i:=22) (oi:=⟨some 16,_,_,_,_,_⟩) (v:=.int .i64 0) rfl (Or.inl ⟨by rfl,fun W hW=>(by rfl)⟩) (by assumption) ?_)
 try simp only[Act.put,List.setIfInBounds_toArray,List.set_cons_succ,List.set_cons_zero]
 refine wpAnyH_done (by kernel_rfl) ?_ _;have HH8:=zh H8;clear H8 hHeld;go_upto_region 17 with (fail)
 have HB8:=zh (HBH7.out.below HH8.out HBH7.out.lt);have HSH:=zh (show SL w8 5 1 (some ⟨hb,0,none⟩) 2 2 [.int .u8 (128+(ct:Int) / 256 % 16),.int .u8 ((ct:Int) % 256)]from ⟨rfl,.inr ⟨hb,0,_,rfl,HB8.out,Nat.le_refl _,by unfold maxLen;omega,by simp,fun j hj=>by rw[Nat.zero_add];simp⟩⟩);obtain⟨lb,lo,hA3,hlb,hlc⟩:=HR8.out (by omega);subst hA3;have HLC:=zh hlc;obtain⟨CF,hCF⟩:=af (jK (nf s.C.key) ct B D PZ)
 have HCF:=zh hCF;rw[<-hCF]at HLC;have HSRC8:Hid (Src Tryz.prog 1 44 (.slice (some ⟨lb,lo,none⟩) (n+4:Nat) c3) (n+4) ((List.range (n+4)).map fun j=>.int .u8 ((CF j:Nat):Int)) w8):=zh (Src.ofSlice _ Tryz.underlying44 ⟨lb,lo,none⟩ (n+4) c3 _ (by simp) (fun j u hu=>by
   have hj:j < n+4:=by have:=(List.getElem?_eq_some_iff.1 hu).1;simpa using this
   rw[Addr.add_lit,HLC.out j hj,<-hu];simp[hj]) (fun u hu=>by
    obtain⟨j,_,rfl⟩:=List.mem_map.1 hu
    rfl))
 clear hlc hCF;go_wp2_with (refine aY rfl _ _ _ _ rfl w8 5 i0 (.int .u8 0) 1 1 Tryz.underlying44 hi hz0 hz1 hz2 rfl (some ⟨hb,0,none⟩) 2 2 _ rfl HSH.out _ rfl (n+4) ((List.range (n+4)).map fun j=>.int .u8 ((CF j:Nat):Int)) HSRC8.out (by omega) (by have:=HP.out;unfold maxLen;omega) (by have:=HP.out;omega) ?_;intro A9 c9 wA hSL9 hK9 hA9;have HSL9:=zh hSL9;have HK9:=zh hK9;have HA9:=zh hA9;clear hSL9 hK9 hA9);go_ret2;have hw8:w.heap.size<=w8.heap.size:=ba HBW7.out.size HH8.out.size;have hpn:cy s.C n=2+(n+4):=by unfold cy kr;rw[HIG.out];rfl
 refine⟨A9,c9,by rw[hpn];rfl,by rw[hpn];exact HSL9.out.le,fun a e=>⟨?_,by obtain⟨cur,h⟩:=HSL9.out.obj e;exact⟨cur,_,h⟩⟩,?_,aa.below (HBW7.out.trans (HH8.out.mono HBW7.out.size)) HK9.out (fun k ⟨a,ha,e⟩=>by cases ha;rw[e];exact Nat.le_of_eq HHB.out.symm) hw8⟩
 ·rcases HA9.out a e with ⟨a',ha',e'⟩ | hge
  ·cases ha'
   rw[e',HHB.out]
   exact Nat.le_refl _
  ·omega
 ·rw[hpn];refine(i5 HSL9.out (fun j hj=>?_)).more ao;unfold gL cD;by_cases hj2:j < 2
  ·rw[if_pos hj2,List.getElem?_append_left (by simpa using hj2)];rcases (by omega:j=0\/j=1)with rfl | rfl
   ·simp[iS]
   ·simp[iS]
  ·rw[if_neg hj2,List.getElem?_append_right (by simp;omega)];have hjn:j-2 < n+4:=by omega
   rw[<-HPZ.out,<-HB.out,<-HD.out,<-HCF.out];simp[hjn]
end Go.Proofs.YtiiojpnckbglcaaGreat
