import Derived.Test.YtnadmdadcpemnaaGreatVJq
import Derived.Test.YtnadmdadcpemnaaGreatMVSq
import Derived.Test.YtnadmdadcpemnaaGreatMVMq
import Derived.Test.YtnadmdadcpemnaaGreatMTBq
import Derived.Test.YtnadmdadcpemnaaGreatMZAq
import Derived.Lib.AppendZeros
import Derived.Test.YtnadmdadcpemnaaGreatB1q
set_option maxRecDepth 100000
set_option maxHeartbeats 1600000
namespace Go.Proofs.YtnadmdadcpemnaaGreat
set_option linter.unusedVariables false
set_option linter.unusedSimpArgs false
open Go.RowKit
attribute [local go_sem ↓] Go.wp_at_zero Go.wp_at_succ
theorem sizeCB (b:Nat->Nat):(Tryz.prog.info? 157).map (·.size)=some (b16 b).size:=by rw[b16_size];kernel_rfl
theorem plus_ok (a b:Nat->Nat) (ha:B16 a) (hb:B16 b) (w:World) :
  Calls Tryz.prog 128 #[.agg (b16 a),.agg (b16 b)] w fun e w'=>e=.returned (.agg (b16 (plusB a b)))/\Below w.heap.size w w':=by
 obtain⟨F,hF⟩:∃F:Nat->Nat->Nat,F=fun i x=>x ^^^ b i:=⟨_,rfl⟩
 have HFX:=zh (fun i x=>(by rw[hF]:F i x=x ^^^ b i));have HEA:Hid (b16 (eachK F a 16)=b16 (plusB a b)):=zh (by rw[eachK_all];exact b16_congr (fun j _=>by rw[hF];rfl));have HAT:=zh (fun j hj=>b16_at b (j:=j) hj);have HSZ:=zh (sizeCB b);have HSF:=zh (sizeCB (eachK F a 16));have HO:=zh (b16_one (eachK F a 16));have HA8:=zh ha;have HB8:=zh hb;obtain⟨E,hE⟩:∃E:Nat->Array Value,E=fun k=>b16 (eachK F a k):=⟨_,rfl⟩
 obtain⟨BA,hBA⟩:∃BA,BA=b16 b:=⟨_,rfl⟩
 obtain⟨AA,hAA⟩:∃AA,AA=b16 a:=⟨_,rfl⟩
 obtain⟨ZB,hZB⟩:∃ZB:Array Value,ZB=#[.int .u8 0,.int .u8 0,.int .u8 0,.int .u8 0,.int .u8 0,.int .u8 0,.int .u8 0,.int .u8 0,.int .u8 0,.int .u8 0,.int .u8 0,.int .u8 0,.int .u8 0,.int .u8 0,.int .u8 0,.int .u8 0]:=⟨_,rfl⟩
 have HEE:=zh hE;have HES:Hid (∀k,k < 16->(E k).setIfInBounds k (.int .u8 (F k (a k):Nat))=E (k+1)):=zh (by rw[hE];exact fun k hk=>eachK_set F a k hk);have HEC:Hid (∀k,k < 16->(E k)[k]? = some (.int .u8 (a k:Nat))):=zh (by rw[hE];exact fun k hk=>(b16_at _ hk).trans (by unfold eachK;rw[if_neg (Nat.lt_irrefl k)]));have HZS:Hid (ZB.size=16):=zh (by rw[hZB];rfl);rw[<-hBA]at HAT HSZ;rw[<-hBA,<-hAA];have HBE:Hid (AA=E 0):=zh (by rw[hE,hAA];exact congrArg b16 (eachK_zero F a).symm);have HZB:=zh hZB;clear hE hBA hAA hZB hF ha hb;go_enter Tryz.func128,Tryz.ntmps128;go_upto_region 1 with (fail)
 obtain⟨bb,hbb⟩:∃bb,bb=w.heap.size:=⟨_,rfl⟩
 refine wp_let (fun V=>Blk V bb 157 AA/\Blk V (bb+1) 157 BA/\Blk V (bb+1+1) 157 ZB/\Below w.heap.size w V) ⟨by rw[hbb];exact((Blk.new _ _ _).alloc _).alloc _,by rw[hbb];exact(blk_atA _ _ _ _ (by simp)).alloc _,by rw[hbb,HZB.out];exact blk_atA _ _ _ _ (by simp),((bnA _).alloc (by simp only[World.size_alloc];omega) _).alloc (by simp only[World.size_alloc];omega) _⟩ ?_;rintro W1 ⟨b1,b2,b3,b4⟩;have B1:=zh b1;have B2:=zh b2;have B3:=zh b3;have B4:=zh b4;have HBB:=zh hbb;rw[<-hbb];clear b1 b2 b3 b4 hbb;go_wp2_with (refine wpList_load_row rfl _ _ rfl (bb+1) rfl 157 BA (0,0) _ B2.out Tryz.underlying157 rfl HSZ.out ?_);go_loopw [8] (fun v wr=>∃k:Nat,k<=16/\v=.int .i64 k/\Blk wr bb 157 (E k)/\Blk wr (bb+1+1) 157 ZB/\Below w.heap.size w wr) (fun v _=>16-(intOf v).toNat)
 case atStart=>exact⟨0,by omega,rfl,by rw[<-HBE.out];exact B1.out,B3.out,B4.out⟩
 case round=>
  clear B1 B2 B3 B4;obtain⟨k,hk,rfl,hB,hZ,hb⟩:=hrel;have k0:(0:Int)<=(k:Int):=by omega
  have HB:=zh hB;have HZb:=zh hZ;have HBW:=zh hb;clear hB hZ hb;by_cases hlt:k < 16
  ·have k1:(k:Int) < 16:=by omega
   obtain⟨iu,hiu,hius⟩:=infoU8;have hix:=idx_arr (P:=Tryz.prog) 157 5 16 Tryz.underlying157 iu hiu hius .u8 Tryz.underlying5 BA k hlt _ (HAT.out k hlt);have HES':=zh (HES.out k hlt);have hxb:=bx (a k) (b k) (F k (a k)) (HA8.out k hlt) (HB8.out k hlt) (HFX.out k (a k)).symm;have c4:=(HB.out.cell k).trans (HEC.out k hlt);have f4:=HB.out.frozen k;obtain⟨x,hx⟩:∃x,x=a k:=⟨_,rfl⟩
   obtain⟨y,hy⟩:∃y,y=b k:=⟨_,rfl⟩
   obtain⟨v,hv⟩:∃v,v=F k x:=⟨_,rfl⟩
   rw[<-hx]at hxb c4 HES';rw[<-hy]at hxb hix;rw[<-hv]at hxb HES';clear hiu hx hy hv;go_wp2;go_roundw
   case rel=>
    refine⟨k+1,by omega,by go_num,?_,HZb.out.far (p:=⟨bb,k,none⟩) (by show ¬bb+1+1=bb;omega) _,HBW.out.setCell (p:=⟨bb,k,none⟩) (by show w.heap.size<=bb;rw[HBB.out];exact Nat.le_refl _) _⟩;rw[<-HES'.out]
    exact HB.out.set_ k _
   case measure=>simp[intOf];omega
  ·obtain rfl:k=16:=by omega
   have HA:Hid (E 16=b16 (plusB a b)):=zh (by rw[HEE.out];exact HEA.out);have HO16:Hid ((E 16).all (·.oneCell')=true):=zh (by rw[HEE.out];exact HO.out);have HS16:Hid ((Tryz.prog.info? 157).map (·.size)=some (E 16).size):=zh (by rw[HEE.out];exact HSF.out);have HZ16:Hid (ZB.size=(E 16).size):=zh (by rw[HZS.out,HEE.out,b16_size]);obtain⟨X,hX⟩:∃X,X=E 16:=⟨_,rfl⟩
   rw[<-hX]at HB HA HO16 HS16 HZ16;have n1:¬(16:Int) < 16:=by omega
   clear hX hk;go_wp2_with (first
    | (refine wpList_load_row rfl _ _ rfl bb rfl 157 X (0,0) _ HB.out Tryz.underlying157 rfl HS16.out ?_)
    | (refine wpList_store_row rfl _ _ _ rfl (bb+1+1) X rfl rfl 157 ZB HZb.out HS16.out HZ16.out HO16.out ?_))
   refine bodyPost_ret (v:=.agg X) (results_cell_row (g:=bb+1+1) (t:=157) (fr:=(0,0)) Tryz.results128 _ _ X _ rfl (setRow_heap wr (bb+1+1) ZB X 157 (0,0) HZb.out) Tryz.underlying157 rfl HS16.out) rfl ⟨by rw[HA.out],?_⟩
   exact belowRow HBW.out (by rw[HBB.out];omega) _
def dbK (b:Nat->Nat) (k:Nat):Nat->Nat:=fun j=>if j < k then (if j < 15 then (b j*2 % 256) ||| (b (j+1) / 128) else b j*2 % 256) else 0
theorem dbK_zero (b:Nat->Nat):b16 (dbK b 0)=b16 (fun _=>0):=b16_congr fun j _=>by unfold dbK;rw[if_neg (by omega)]
theorem dbK_set (b:Nat->Nat) (k v:Nat) (hk:k < 16) (hv:v=if k < 15 then (b k*2 % 256) ||| (b (k+1) / 128) else b k*2 % 256):(b16 (dbK b k)).setIfInBounds k (.int .u8 (v:Nat))=b16 (dbK b (k+1)):=by
 rw[b16_set _ _ _ hk];refine b16_congr fun j hj=>?_;unfold upd dbK;by_cases e:j=k
 ·subst e;rw[if_pos rfl,if_pos (by omega),hv]
 ·rw[if_neg e];by_cases h2:j < k
  ·simp[h2,show j < k+1 by omega]
  ·simp[h2,show ¬j < k+1 by omega]
theorem dbK_all (b:Nat->Nat) (v:Nat) (hv:v=(b 15*2 % 256) ^^^ (b 0 / 128*135 % 256)):(b16 (dbK b 16)).setIfInBounds 15 (.int .u8 (v:Nat))=b16 (dblB b):=by
 rw[b16_set _ _ _ (by decide)];refine b16_congr fun j hj=>?_;unfold upd dbK dblB;by_cases e:j=15
 ·subst e;rw[if_pos rfl,if_neg (by omega),hv]
 ·rw[if_neg e,if_pos hj,if_pos (by omega),if_pos (by omega)]
theorem b16z:b16 (fun _=>0)=#[.int .u8 0,.int .u8 0,.int .u8 0,.int .u8 0,.int .u8 0,.int .u8 0,.int .u8 0,.int .u8 0,.int .u8 0,.int .u8 0,.int .u8 0,.int .u8 0,.int .u8 0,.int .u8 0,.int .u8 0,.int .u8 0]:=by kernel_rfl
theorem doubled_ok (b:Nat->Nat) (hb:B16 b) (w:World) :
  Calls Tryz.prog 150 #[.agg (b16 b)] w fun e w'=>e=.returned (.agg (b16 (dblB b)))/\Below w.heap.size w w':=by
 have HB8:=zh hb;have HAT:=zh (fun j hj=>b16_at b (j:=j) hj);obtain⟨E,hE⟩:∃E:Nat->Array Value,E=fun k=>b16 (dbK b k):=⟨_,rfl⟩
 obtain⟨BA,hBA⟩:∃BA,BA=b16 b:=⟨_,rfl⟩
 obtain⟨ZB,hZB⟩:∃ZB:Array Value,ZB=#[.int .u8 0,.int .u8 0,.int .u8 0,.int .u8 0,.int .u8 0,.int .u8 0,.int .u8 0,.int .u8 0,.int .u8 0,.int .u8 0,.int .u8 0,.int .u8 0,.int .u8 0,.int .u8 0,.int .u8 0,.int .u8 0]:=⟨_,rfl⟩
 have HEE:=zh hE;have HES:Hid (∀k v,k < 16->(v=if k < 15 then (b k*2 % 256) ||| (b (k+1) / 128) else b k*2 % 256)->(E k).setIfInBounds k (.int .u8 (v:Nat))=E (k+1)):=zh (by rw[hE];exact fun k v hk hv=>dbK_set b k v hk hv);have HES2:Hid (∀k (u v:Value),((E k).setIfInBounds k u).setIfInBounds k v=(E k).setIfInBounds k v):=zh (fun k u v=>by rw[Array.setIfInBounds_setIfInBounds]);have HEC:Hid (∀k,k < 16->(E k)[k]? = some (.int .u8 0)):=zh (by rw[hE];exact fun k hk=>(b16_at _ hk).trans (by unfold dbK;rw[if_neg (Nat.lt_irrefl k)];rfl));have HBE:Hid (ZB=E 0):=zh (by rw[hE,hZB,<-b16z];exact(dbK_zero b).symm);rw[<-hBA]at HAT;rw[<-hBA];have HZB:=zh hZB;clear hE hBA hZB hb;go_enter Tryz.func150,Tryz.ntmps150;go_upto_region 1 with (fail)
 obtain⟨bb,hbb⟩:∃bb,bb=w.heap.size:=⟨_,rfl⟩
 refine wp_let (fun V=>Blk V bb 157 BA/\Blk V (bb+1) 157 ZB/\Below w.heap.size w V) ⟨by rw[hbb];exact(Blk.new _ _ _).alloc _,by rw[hbb,HZB.out];exact blk_atA _ _ _ _ (by simp),(bnA _).alloc (by simp only[World.size_alloc];omega) _⟩ ?_;rintro W1 ⟨b1,b2,b3⟩;have B1:=zh b1;have B2:=zh b2;have B3:=zh b3;have HBB:=zh hbb;rw[<-hbb];clear b1 b2 b3 hbb;go_wp2;go_loopw [4] (fun v wr=>∃k:Nat,k<=16/\v=.int .i64 k/\Blk wr bb 157 BA/\Blk wr (bb+1) 157 (E k)/\Below w.heap.size w wr) (fun v _=>16-(intOf v).toNat)
 case atStart=>exact⟨0,by omega,rfl,B1.out,by rw[<-HBE.out];exact B2.out,B3.out⟩
 case round=>
  clear B1 B2 B3;obtain⟨k,hk,rfl,hA,hB,hb⟩:=hrel;have k0:(0:Int)<=(k:Int):=by omega
  have HA:=zh hA;have HB:=zh hB;have HBW:=zh hb;clear hA hB hb;by_cases hlt:k < 16
  ·have k1:(k:Int) < 16:=by omega
   have c1:=(HA.out.cell k).trans (HAT.out k hlt);have c4:=(HB.out.cell k).trans (HEC.out k hlt);have f4:=HB.out.frozen k;obtain⟨x,hx⟩:∃x,x=b k:=⟨_,rfl⟩
   have HX:=zh hx;have hx8:x < 256:=by rw[hx];exact HB8.out k hlt
   rw[<-hx]at c1;have x0:(0:Int)<=(x:Int):=by omega
   have x1:(x:Int) < 256:=by omega
   obtain⟨d,hd⟩:∃d:Nat,d=x*2 % 256:=⟨_,rfl⟩
   have HD:=zh hd;have hdI:(x:Int)*2 % 256=(d:Int):=by rw[hd];omega
   have d1:(d:Int) < 256:=by omega
   have d0:(0:Int)<=(d:Int):=by omega
   clear hx hd hx8;by_cases h15:k < 15
   ·have k2:(k:Int) < 15:=by omega
    have c2:=(HA.out.cell (k+1)).trans (HAT.out (k+1) (by omega));obtain⟨y,hy⟩:∃y,y=b (k+1):=⟨_,rfl⟩
    have HY:=zh hy;have hy8:y < 256:=by rw[hy];exact HB8.out (k+1) (by omega)
    rw[<-hy]at c2;have y0:(0:Int)<=(y:Int):=by omega
    have y1:(y:Int) < 256:=by omega
    obtain⟨z,hz⟩:∃z:Nat,z=d ||| y / 128:=⟨_,rfl⟩
    have HZ:=zh hz;have hor:bits .or .u8 (d:Int) ((y:Int) / 128)=(z:Int):=by
     rw[show((y:Int) / 128)=((y / 128:Nat):Int) by omega,u8_or_nat d (y / 128) (by omega) (by omega),hz]
    clear hy hz hy8;go_upto_region 6 with (fail)
    refine wp_let (fun X=>Blk X bb 157 BA/\Blk X (bb+1) 157 ((E k).setIfInBounds k (.int .u8 (d:Int)))/\Below w.heap.size w X) ⟨HA.out.far (p:=⟨bb+1,k,none⟩) (by show ¬bb=bb+1;omega) _,HB.out.set_ k _,HBW.out.setCell (p:=⟨bb+1,k,none⟩) (by show w.heap.size<=bb+1;rw[HBB.out];omega) _⟩ ?_;rintro X ⟨x1',x2',x3'⟩;have XA:=zh x1';have XB:=zh x2';have XW:=zh x3';have e2:=(x1'.cell (k+1)).trans (HAT.out (k+1) (by omega));rw[<-HY.out]at e2;have hsz:k < (E k).size:=by rw[HEE.out];show k < (b16 (dbK b k)).size;rw[b16_size];exact hlt
    have e4:=(x2'.cell k).trans (by rw[Array.getElem?_setIfInBounds_self_of_lt hsz]:_=some (.int .u8 (d:Int)));have g4:=x2'.frozen k;clear x1' x2' x3' c1 c2 c4 f4 hsz;go_region;have HS:=zh (HES.out k z hlt (by rw[if_pos h15,HZ.out,HD.out,HX.out,HY.out]));have HS2:=zh (HES2.out k (.int .u8 (d:Int)) (.int .u8 (z:Nat)));go_wp2;go_roundw
    case rel=>
     refine⟨k+1,by omega,by go_num,((XA.out.far (p:=⟨bb+1,k,none⟩) (by show ¬bb=bb+1;omega) _).drew),?_,(XW.out.setCell (p:=⟨bb+1,k,none⟩) (by show w.heap.size<=bb+1;rw[HBB.out];omega) _).drew⟩;rw[<-HS.out,<-HS2.out]
     exact(XB.out.set_ k _).drew
    case measure=>simp[intOf];omega
   ·have k2:¬(k:Int) < 15:=by omega
    have HS:=zh (HES.out k d hlt (by rw[if_neg h15,HD.out,HX.out]));go_wp2;go_roundw
    case rel=>
     refine⟨k+1,by omega,by go_num,HA.out.far (p:=⟨bb+1,k,none⟩) (by show ¬bb=bb+1;omega) _,?_,HBW.out.setCell (p:=⟨bb+1,k,none⟩) (by show w.heap.size<=bb+1;rw[HBB.out];omega) _⟩;rw[<-HS.out]
     exact HB.out.set_ k _
    case measure=>simp[intOf];omega
  ·obtain rfl:k=16:=by omega
   have n1:¬(16:Int) < 16:=by omega
   have c0:=(HA.out.cell 0).trans (HAT.out 0 (by decide));have c15:=(HB.out.cell 15).trans (show(E 16)[15]? = some (.int .u8 ((b 15*2 % 256:Nat):Int)) by rw[HEE.out];exact(b16_at _ (by decide)).trans (by unfold dbK;rw[if_pos (by decide),if_neg (by decide)]));have f15:=HB.out.frozen 15;obtain⟨q,hq⟩:∃q,q=b 0:=⟨_,rfl⟩
   obtain⟨p,hp⟩:∃p,p=b 15*2 % 256:=⟨_,rfl⟩
   have hq8:q < 256:=by rw[hq];exact HB8.out 0 (by decide)
   have hp8:p < 256:=by rw[hp];omega
   rw[<-hq]at c0;rw[<-hp]at c15;obtain⟨z,hz⟩:∃z:Nat,z=p ^^^ (q / 128*135 % 256):=⟨_,rfl⟩
   have hxb:bits .xor .u8 (p:Int) ((q:Int) / 128*135)=(z:Int):=by
    rw[show((q:Int) / 128*135)=((q / 128*135 % 256:Nat):Int) by omega]
    exact bx p (q / 128*135 % 256) z hp8 (Nat.mod_lt _ (by decide)) hz.symm
   have HXX:Hid ((E 16).setIfInBounds 15 (.int .u8 (z:Nat))=b16 (dblB b)):=zh (by rw[HEE.out];exact dbK_all b z (by rw[hz,hp,hq]));have q0:(0:Int)<=(q:Int):=by omega
   have q1:(q:Int) < 256:=by omega
   have p0:(0:Int)<=(p:Int):=by omega
   have p1:(p:Int) < 256:=by omega
   clear hq hp hz hk;go_upto_region 9 with (fail)
   refine wp_let (fun V=>Blk V (bb+1) 157 (b16 (dblB b))/\Below w.heap.size w V) ⟨by rw[<-HXX.out];exact HB.out.set_ 15 _,HBW.out.setCell (p:=⟨bb+1,15,none⟩) (by show w.heap.size<=bb+1;rw[HBB.out];omega) _⟩ ?_;rintro V ⟨v1,v2⟩;have V1:=zh v1;have V2:=zh v2;have HO16:Hid ((b16 (dblB b)).all (·.oneCell')=true):=zh (b16_one _);have HS16:Hid ((Tryz.prog.info? 157).map (·.size)=some (b16 (dblB b)).size):=zh (sizeCB _);obtain⟨X,hX⟩:∃X,X=b16 (dblB b):=⟨_,rfl⟩
   have HX:=zh hX;rw[<-hX]at V1 HO16 HS16;clear v1 v2 hX c0 c15 f15;go_wp2_with (first
    | (refine wpList_load_row rfl _ _ rfl (bb+1) rfl 157 X (0,0) _ V1.out Tryz.underlying157 rfl HS16.out ?_)
    | (refine wpList_store_row rfl _ _ _ rfl (bb+1) X rfl rfl 157 X V1.out HS16.out rfl HO16.out ?_))
   refine bodyPost_ret (v:=.agg X) (results_cell_row (g:=bb+1) (t:=157) (fr:=(0,0)) Tryz.results150 _ _ X _ rfl (setRow_heap V (bb+1) X X 157 (0,0) V1.out) Tryz.underlying157 rfl HS16.out) rfl ⟨by rw[HX.out],?_⟩
   exact belowRow V2.out (by rw[HBB.out];omega) _
theorem results_two_rows {P:Program} {fn:Func} {p q:Tmp} {ty:TypeId} (h:fn.results=#[.cell p ty,.cell q ty]) (tmps:Array Value) (w:World) (g1 g2:Nat) (t:TypeId) (cs ds:Array Value) (f1 f2:Nat×Nat) (d:TypeDesc)
  (hp:tmps.getD p undef=.pointer (some ⟨g1,0,none⟩)) (hg1:w.heap[g1]? = some (.cells cs t f1)) (hq:tmps.getD q undef=.pointer (some ⟨g2,0,none⟩)) (hg2:w.heap[g2]? = some (.cells ds t f2))
  (hu:P.underlying ty=some d) (hd:(match d with | .struct _ | .array _ _=>true | _=>false)=true) (hi:(P.info? ty).map (·.size)=some cs.size) (hi2:(P.info? ty).map (·.size)=some ds.size) :
  (results fn tmps).run P w=.ok (.tuple #[.agg cs,.agg ds]) w:=by
 have hp':tmps[p]?.getD undef=.pointer (some ⟨g1,0,none⟩):=by simpa using hp
 have hq':tmps[q]?.getD undef=.pointer (some ⟨g2,0,none⟩):=by simpa using hq
 simp[results,h,hp',hq',asAddr,run_loadVar_row w g1 t ty cs f1 d hg1 hu hd hi,run_loadVar_row w g2 t ty ds f2 d hg2 hu hd hi2]
theorem size16 (b:Nat->Nat):(Tryz.prog.info? 23).map (·.size)=some (b16 b).size:=by rw[b16_size];kernel_rfl
theorem subkeys_ok (key:Nat->Nat) (hk:B16 key) (w:World) :
  Calls Tryz.prog 127 #[.agg (b16 key)] w fun e w'=>e=.returned (.tuple #[.agg (b16 (key1 key)),.agg (b16 (key2 key))])/\Below w.heap.size w w':=by
 have HN:=zh (fun V=>anew_ok key hk V);have HEN:=zh (fun V g (h:CipM V g key)=>encrypt_ok key zB hk zB_lt g V h);have HD1:=zh (fun V=>doubled_ok (aesF key zB) (aesF_lt hk zB_lt) V);have HD2:=zh (fun V=>doubled_ok (key1 key) (key1_lt hk) V);rw[show b16 zB=#[.int .u8 0,.int .u8 0,.int .u8 0,.int .u8 0,.int .u8 0,.int .u8 0,.int .u8 0,.int .u8 0,.int .u8 0,.int .u8 0,.int .u8 0,.int .u8 0,.int .u8 0,.int .u8 0,.int .u8 0,.int .u8 0]from b16z]at HEN;have HSK:=zh (size16 key);have HS1:=zh (size16 (key1 key));have HS2:=zh (size16 (key2 key));have HC1:=zh (sizeCB (key1 key));have HO1:=zh (b16_one (key1 key));have HO2:=zh (b16_one (key2 key));obtain⟨KY,hKY⟩:∃X,X=b16 key:=⟨_,rfl⟩
 obtain⟨EZ,hEZ⟩:∃X,X=b16 (aesF key zB):=⟨_,rfl⟩
 obtain⟨K1,hK1⟩:∃X,X=b16 (key1 key):=⟨_,rfl⟩
 obtain⟨K2,hK2⟩:∃X,X=b16 (key2 key):=⟨_,rfl⟩
 rw[show dblB (aesF key zB)=key1 key from rfl]at HD1;rw[show dblB (key1 key)=key2 key from rfl]at HD2;rw[<-hKY]at HN HSK;rw[<-hEZ]at HEN HD1;rw[<-hK1]at HD1 HD2 HS1 HC1 HO1;rw[<-hK2]at HD2 HS2 HO2;rw[<-hKY,<-hK1,<-hK2];have HZ1:Hid ((#[.int .u8 0,.int .u8 0,.int .u8 0,.int .u8 0,.int .u8 0,.int .u8 0,.int .u8 0,.int .u8 0,.int .u8 0,.int .u8 0,.int .u8 0,.int .u8 0,.int .u8 0,.int .u8 0,.int .u8 0,.int .u8 0]:Array Value).size=K1.size):=zh (by rw[hK1,b16_size];rfl);have HZ2:Hid ((#[.int .u8 0,.int .u8 0,.int .u8 0,.int .u8 0,.int .u8 0,.int .u8 0,.int .u8 0,.int .u8 0,.int .u8 0,.int .u8 0,.int .u8 0,.int .u8 0,.int .u8 0,.int .u8 0,.int .u8 0,.int .u8 0]:Array Value).size=K2.size):=zh (by rw[hK2,b16_size];rfl);have HZC:Hid ((#[.int .u8 0,.int .u8 0,.int .u8 0,.int .u8 0,.int .u8 0,.int .u8 0,.int .u8 0,.int .u8 0,.int .u8 0,.int .u8 0,.int .u8 0,.int .u8 0,.int .u8 0,.int .u8 0,.int .u8 0,.int .u8 0]:Array Value).size=K1.size):=HZ1;obtain⟨ZB,hZB⟩:∃ZB:Array Value,ZB=#[.int .u8 0,.int .u8 0,.int .u8 0,.int .u8 0,.int .u8 0,.int .u8 0,.int .u8 0,.int .u8 0,.int .u8 0,.int .u8 0,.int .u8 0,.int .u8 0,.int .u8 0,.int .u8 0,.int .u8 0,.int .u8 0]:=⟨_,rfl⟩
 have HZB:=zh hZB;rw[<-hZB]at HZ1 HZ2;clear hKY hEZ hK1 hK2 hZB;go_enter Tryz.func127,Tryz.ntmps127;go_upto_region 1 with (fail)
 obtain⟨bb,hbb⟩:∃bb,bb=w.heap.size:=⟨_,rfl⟩
 refine wp_let (fun V=>Blk V bb 23 KY/\Blk V (bb+1) 23 ZB/\Blk V (bb+1+1) 23 ZB/\Below w.heap.size w V) ⟨by rw[hbb];exact((Blk.new _ _ _).alloc _).alloc _,by rw[hbb,HZB.out];exact(blk_atA _ _ _ _ (by simp)).alloc _,by rw[hbb,HZB.out];exact blk_atA _ _ _ _ (by simp),((bnA _).alloc (by simp only[World.size_alloc];omega) _).alloc (by simp only[World.size_alloc];omega) _⟩ ?_;rintro W1 ⟨b1,b2,b3,b4⟩;have B1:=zh b1;have B2:=zh b2;have B3:=zh b3;have B4:=zh b4;have HBB:=zh hbb;rw[<-hbb];clear b1 b2 b3 b4 hbb;go_upto_region 2 with (first
  | (refine wpList_load_row rfl _ _ rfl bb rfl 23 KY (0,0) _ B1.out Tryz.underlying23 rfl HSK.out ?_)
  | (go_at_call 123;refine(HN.out _).mono ?_;rintro e w2 ⟨cg,rfl,hM,hcg,hB⟩;have CM:=zh hM;have E2:=zh hB;clear hM hcg hB)
  | (go_at_call 125;with_reducible refine(HEN.out _ cg CM.out).mono ?_;rintro e w3 ⟨rfl,hB⟩;have E3:=zh (E2.out.trans (hB.mono E2.out.size));clear hB)
  | (go_at_call 150;with_reducible refine(HD1.out _).mono ?_;rintro e w4 ⟨rfl,hB⟩;have E4:=zh (E3.out.trans (hB.mono E3.out.size));clear hB)
  | (refine wpList_store_row rfl _ _ _ rfl w4.heap.size K1 rfl rfl 157 _ (Blk.new w4 _ _) HC1.out HZC.out HO1.out ?_))
 try simp only[Act.put]
 obtain⟨cb,hcb⟩:∃cb,cb=w4.heap.size:=⟨_,rfl⟩
 refine wp_let (fun V=>Blk V cb 157 K1/\Below W1.heap.size W1 V) ⟨by rw[hcb];exact Blk.setRow (Blk.new _ _ _),belowRow (E4.out.alloc E4.out.size _) E4.out.size _⟩ ?_;rintro V ⟨v1,v2⟩;have hne1:cb ≠ bb+1:=by rw[hcb];have:=E4.out.size;have:=B3.out.lt;omega
 have hne2:cb ≠ bb+1+1:=by rw[hcb];have:=E4.out.size;have:=B3.out.lt;omega
 have V1:=zh v1;have V2:=zh (B2.out.below v2 B2.out.lt);have V3:=zh (B3.out.below v2 B3.out.lt);have V4:=zh (B4.out.trans (v2.mono B4.out.size));rw[<-hcb];have HKR:=zh (show ∀W',KeepF (fun k=>k=bb+1\/k=bb+1+1) V W'->W'.rangeAt cb 0 K1.toList from fun W' hW=>Blk.range (hW.blk V1.out (fun h=>by rcases h with h | h;exact hne1 h;exact hne2 h)) K1.toList (by rw[Array.toArray_toList]));have HSC:Hid ((Tryz.prog.info? 157).map (·.size)=some K1.toList.length):=zh (by rw[Array.length_toList];exact HC1.out);have HUC:=zh Tryz.underlying157;clear v1 v2 hcb hne1 hne2;obtain⟨w0,hw0⟩:∃w0,w0=V.drew:=⟨_,rfl⟩
 have hb0:Below V.heap.size V w0:=by rw[hw0];exact(Below.refl _ _).drew
 refine wp_region_held_drew (S:=fun w'=>KeepF (fun k=>k=bb+1\/k=bb+1+1) V w') (by kernel_rfl) ((KeepF.refl (w:=V)).drew) (fun hHeld=>?_);rw[<-hw0];rw[<-hw0]at hHeld;clear hw0;refine' wpAnyH_take (i:=0) (oi:=⟨some 10,_,_,_,_,_⟩) (v:=_) rfl (by kernel_rfl) (by kernel_rfl) (by kernel_rfl) (fun _ _ _ h=>h) (yieldsIf_load_mid (by rfl) _ _ rfl cb 0 rfl K1.toList _ (fun w h=>HKR.out w h) HUC.out rfl HSC.out) (by assumption) ?_
 try simp only[Act.put,qa,qb,qc]
 refine' wpAnyH_take (i:=1) (oi:=⟨some 11,_,_,_,_,_⟩) (v:=_) rfl (by kernel_rfl) (by kernel_rfl) (by kernel_rfl) (fun _ _ _ h=>h) (yieldsIf_load_mid (by rfl) _ _ rfl cb 0 rfl K1.toList _ (fun w h=>HKR.out w h) HUC.out rfl HSC.out) (by assumption) ?_
 try simp only[Act.put,qa,qb,qc]
 refine rdH (i:=2) (x:=some 12) rfl fun K hK=>?_;go_simp;refine(HD2.out w0).mono ?_;rintro e w5 ⟨rfl,hB⟩;dsimp only;have H5:KeepF (fun k=>k=bb+1\/k=bb+1+1) V w5:=hHeld.trans (KeepF.of_below (F:=fun _=>False) hB) (fun _ _ h=>h.elim);have C2:=V2.out.below (hb0.trans (hB.mono hb0.size)) V2.out.lt;have C3:=V3.out.below (hb0.trans (hB.mono hb0.size)) V3.out.lt;refine hK.out _ _ H5 (fun hHeld=>?_);clear hK K hB
 try simp only[Act.put,qa,qb,qc]
 refine rdH (i:=3) (x:=none) rfl fun K hK=>?_;refine wp_store_row _ _ _ rfl (bb+1) K1 rfl rfl 23 ZB C2 HS1.out HZ1.out HO1.out ?_;have H6:KeepF (fun k=>k=bb+1\/k=bb+1+1) V (w5.setRow (bb+1) K1):=⟨H5.os,H5.tape,H5.output,by rw[size_setRow];exact H5.size,fun k hk hn=>(setRow_other w5 (bb+1) k K1 (fun e=>hn (.inl e))).trans (H5.block k hk hn)⟩
 have D2:Blk (w5.setRow (bb+1) K1) (bb+1) 23 K1:=Blk.setRow C2;have D3:Blk (w5.setRow (bb+1) K1) (bb+1+1) 23 ZB:=Blk.farRow C3 (by omega);refine hK.out _ _ H6 (fun hHeld=>?_);clear hK K
 try simp only[Act.put]
 refine rdH (i:=4) (x:=none) rfl fun K hK=>?_;refine wp_store_row _ _ _ rfl (bb+1+1) K2 rfl rfl 23 ZB D3 HS2.out HZ2.out HO2.out ?_;have H7:KeepF (fun k=>k=bb+1\/k=bb+1+1) V ((w5.setRow (bb+1) K1).setRow (bb+1+1) K2):=⟨H6.os,H6.tape,H6.output,by rw[size_setRow];exact H6.size,fun k hk hn=>(setRow_other _ (bb+1+1) k K2 (fun e=>hn (.inr e))).trans (H6.block k hk hn)⟩
 have F2:Blk ((w5.setRow (bb+1) K1).setRow (bb+1+1) K2) (bb+1) 23 K1:=Blk.farRow D2 (by omega);have F3:Blk ((w5.setRow (bb+1) K1).setRow (bb+1+1) K2) (bb+1+1) 23 K2:=Blk.setRow D3;refine hK.out _ _ H7 (fun hHeld=>?_);clear hK K
 try simp only[Act.put]
 refine wpAnyH_done (by kernel_rfl) ?_ _;go_wp2;refine bodyPost_ret (v:=.tuple #[.agg K1,.agg K2]) (results_two_rows (g1:=bb+1) (g2:=bb+1+1) (t:=23) (f1:=(0,0)) (f2:=(0,0)) Tryz.results127 _ _ _ _ _ rfl F2 rfl F3 Tryz.underlying23 rfl HS1.out HS2.out) rfl ⟨rfl,?_⟩
 exact KeepF.below V4.out H7 (fun k hk=>by rcases hk with h | h<;>(rw[h,HBB.out];omega)) V4.out.size
theorem last_ok (key b:Nat->Nat) (r:Nat) (hk:B16 key) (hb:B16 b) (hr:r<=16) (kb:Nat) (w:World) (h:Blk w kb 23 (b16 key)) :
  Calls Tryz.prog 126 #[.agg (b16 b),.int .i64 r,.pointer (some ⟨kb,0,none⟩)] w fun e w'=>e=.returned (.agg (b16 (lastB key b r)))/\Below w.heap.size w w':=by
 have HSUB:=zh (fun V=>subkeys_ok key hk V);have HUC:=zh Tryz.underlying157;have HUK:=zh Tryz.underlying23;have HSKY:=zh (size16 key);have HSK1:=zh (size16 (key1 key));have HSK2:=zh (size16 (key2 key));have HO1:=zh (b16_one (key1 key));have HO2:=zh (b16_one (key2 key));have HPL1:=zh (fun V=>plus_ok b (key1 key) hb (key1_lt hk) V);have HPL2:=zh (fun(h16:r < 16) V=>plus_ok (upd b r 128) (key2 key) (upd_lt16 hb (by decide)) (key2_lt hk) V);have HKB:=zh h;have HZ16:Hid (∀c,(#[.int .u8 0,.int .u8 0,.int .u8 0,.int .u8 0,.int .u8 0,.int .u8 0,.int .u8 0,.int .u8 0,.int .u8 0,.int .u8 0,.int .u8 0,.int .u8 0,.int .u8 0,.int .u8 0,.int .u8 0,.int .u8 0]:Array Value).size=(b16 c).size):=zh (fun c=>by rw[b16_size];rfl);have hkl:=h.lt;obtain⟨KY,hKY⟩:∃X,X=b16 key:=⟨_,rfl⟩
 obtain⟨K1,hK1⟩:∃X,X=b16 (key1 key):=⟨_,rfl⟩
 obtain⟨K2,hK2⟩:∃X,X=b16 (key2 key):=⟨_,rfl⟩
 obtain⟨BA,hBA⟩:∃X,X=b16 b:=⟨_,rfl⟩
 have HK1:=zh hK1;have HK2:=zh hK2;have HBA:=zh hBA;rw[<-hKY]at HSUB HSKY HKB;rw[<-hK1]at HSUB HSK1 HO1 HPL1;rw[<-hK2]at HSUB HSK2 HO2 HPL2;rw[<-hBA]at HPL1;rw[<-hBA];have HZ1:Hid ((#[.int .u8 0,.int .u8 0,.int .u8 0,.int .u8 0,.int .u8 0,.int .u8 0,.int .u8 0,.int .u8 0,.int .u8 0,.int .u8 0,.int .u8 0,.int .u8 0,.int .u8 0,.int .u8 0,.int .u8 0,.int .u8 0]:Array Value).size=K1.size):=zh (by rw[hK1];exact HZ16.out _);have HZ2:Hid ((#[.int .u8 0,.int .u8 0,.int .u8 0,.int .u8 0,.int .u8 0,.int .u8 0,.int .u8 0,.int .u8 0,.int .u8 0,.int .u8 0,.int .u8 0,.int .u8 0,.int .u8 0,.int .u8 0,.int .u8 0,.int .u8 0]:Array Value).size=K2.size):=zh (by rw[hK2];exact HZ16.out _);obtain⟨ZB,hZB⟩:∃ZB:Array Value,ZB=#[.int .u8 0,.int .u8 0,.int .u8 0,.int .u8 0,.int .u8 0,.int .u8 0,.int .u8 0,.int .u8 0,.int .u8 0,.int .u8 0,.int .u8 0,.int .u8 0,.int .u8 0,.int .u8 0,.int .u8 0,.int .u8 0]:=⟨_,rfl⟩
 have HZB:=zh hZB;clear hKY hK1 hK2 hBA hZB h;go_enter Tryz.func126,Tryz.ntmps126;go_upto_region 1 with (fail)
 obtain⟨bb,hbb⟩:∃bb,bb=w.heap.size:=⟨_,rfl⟩
 refine wp_let (fun V=>Blk V bb 157 BA/\Blk V (bb+1) 157 ZB/\Blk V kb 23 KY/\Below w.heap.size w V) ⟨by rw[hbb];exact(Blk.new _ _ _).alloc _,by rw[hbb,HZB.out];exact blk_atA _ _ _ _ (by simp),(HKB.out.alloc _).alloc _,(bnA _).alloc (by simp only[World.size_alloc];omega) _⟩ ?_;rintro W1 ⟨b1,b2,b3,b4⟩;have B1:=zh b1;have B2:=zh b2;have B3:=zh b3;have B4:=zh b4;have HBB:=zh hbb;rw[<-hbb];clear b1 b2 b3 b4 hbb;go_upto_region 2 with (first
  | (refine wpList_load_row rfl _ _ rfl kb rfl 23 KY (0,0) _ B3.out HUK.out rfl HSKY.out ?_)
  | (go_at_call 127;with_reducible refine(HSUB.out _).mono ?_;rintro e w2 ⟨rfl,hB⟩;have E2:=zh hB;clear hB)
  | (refine wpList_store_row rfl _ _ _ rfl w2.heap.size K1 rfl rfl 23 _ ((blk_atA w2 _ _ _ rfl).alloc _) HSK1.out HZ1.out HO1.out ?_)
  | (refine wpList_store_row rfl _ _ _ rfl (w2.heap.size+1) K2 rfl rfl 23 _ (Blk.farRow (blk_atA _ _ _ _ (by simp)) (by omega)) HSK2.out HZ2.out HO2.out ?_))
 try simp only[Act.put]
 obtain⟨cb,hcb⟩:∃cb,cb=w2.heap.size:=⟨_,rfl⟩
 have hbw2:=E2.out;refine wp_let (fun V=>Blk V cb 23 K1/\Blk V (cb+1) 23 K2/\Below w2.heap.size w2 V) (by
  rw[hcb]
  exact⟨Blk.farRow (Blk.setRow ((blk_atA w2 _ _ _ rfl).alloc _)) (by omega),Blk.setRow (Blk.farRow (blk_atA _ _ _ _ (by simp)) (by omega)),belowRow (belowRow (((Below.refl _ w2).alloc (Nat.le_refl _) _).alloc (by simp) _) (Nat.le_refl _) _) (by omega) _⟩) ?_
 rintro V ⟨v1,v2,v3⟩;have YK1:=zh v1;have YK2:=zh v2;have hV:=hbw2.trans (v3.mono hbw2.size);have VB:=zh (B1.out.below hV B1.out.lt);have VZ:=zh (B2.out.below hV B2.out.lt);have VW:=zh (B4.out.trans (hV.mono B4.out.size));have hcbb:cb ≠ bb/\cb+1 ≠ bb/\bb < cb:=by rw[hcb];have:=hbw2.size;have:=B2.out.lt;omega
 have HCB:=zh hcbb;rw[<-hcb];clear v1 v2 v3 hV hbw2 hcb hcbb;have r0:(0:Int)<=(r:Int):=by omega
 by_cases h16:r=16
 ·subst h16;have HXB:Hid ((Tryz.prog.info? 157).map (·.size)=some BA.size):=zh (by rw[HBA.out];exact sizeCB b);have YB:=VB;have YZ:=VZ;have YW:=VW;have HRX:Hid ((Tryz.prog.info? 157).map (·.size)=some (b16 (plusB b (key1 key))).size):=zh (sizeCB _);have HRO:Hid ((b16 (plusB b (key1 key))).all (·.oneCell')=true):=zh (b16_one _);have HZR:Hid (ZB.size=(b16 (plusB b (key1 key))).size):=zh (by rw[HZB.out];exact HZ16.out _);have HRR:Hid (b16 (lastB key b 16)=b16 (plusB b (key1 key))):=zh (by unfold lastB;rw[if_pos rfl]);obtain⟨RX,hRX⟩:∃X,X=b16 (plusB b (key1 key)):=⟨_,rfl⟩
  rw[<-hRX]at HRX HRO HZR HRR HPL1;clear hRX;go_wp2_with (first
   | (refine wpList_load_row rfl _ _ rfl bb rfl 157 BA (0,0) _ YB.out HUC.out rfl HXB.out ?_)
   | (refine wpList_load_row rfl _ _ rfl cb rfl 23 K1 (0,0) _ YK1.out HUK.out rfl HSK1.out ?_)
   | (go_at_call 128;with_reducible refine(HPL1.out _).mono ?_;rintro e w5 ⟨rfl,hB⟩;have E5:=zh hB;have Z5:=zh (YZ.out.below hB YZ.out.lt);clear hB)
   | (refine wpList_store_row rfl _ _ _ rfl (bb+1) RX rfl rfl 157 ZB Z5.out HRX.out HZR.out HRO.out ?_))
  refine bodyPost_ret (v:=.agg RX) (results_cell_row (g:=bb+1) (t:=157) (fr:=(0,0)) Tryz.results126 _ _ RX _ rfl (setRow_heap w5 (bb+1) ZB RX 157 (0,0) Z5.out) HUC.out rfl HRX.out) rfl ⟨by rw[HRR.out],?_⟩;have hx:=YW.out.trans (E5.out.mono YW.out.size)
  exact belowRow hx (by rw[HBB.out];omega) _
 ·have hlt:r < 16:=by omega
  have r1:(r:Int) < 16:=by omega
  have r2:¬(r:Int)=16:=by omega
  have c1:=(VB.out.cell r).trans (by rw[HBA.out];exact b16_at b hlt:BA[r]? = some (.int .u8 ((b r:Nat):Int)));have f1:=VB.out.frozen r;go_upto_region 5 with (fail)
  have HU:=zh (show BA.setIfInBounds r (.int .u8 128)=b16 (upd b r 128)from by rw[HBA.out];exact b16_set b r 128 hlt);refine wp_let (fun X=>Blk X bb 157 (b16 (upd b r 128))/\Blk X (bb+1) 157 ZB/\Blk X (cb+1) 23 K2/\Below w.heap.size w X) ⟨by rw[<-HU.out];exact VB.out.set_ r _,VZ.out.far (p:=⟨bb,r,none⟩) (by show ¬bb+1=bb;omega) _,YK2.out.far (p:=⟨bb,r,none⟩) (by show ¬cb+1=bb;have:=HCB.out;omega) _,VW.out.setCell (p:=⟨bb,r,none⟩) (by show w.heap.size<=bb;rw[HBB.out];exact Nat.le_refl _) _⟩ ?_;rintro X ⟨x1,x2,x3,x4⟩;have YB:=zh x1;have YZ:=zh x2;have YW:=zh x4;clear YK2;have YK2:=zh x3;have HXB:Hid ((Tryz.prog.info? 157).map (·.size)=some (b16 (upd b r 128)).size):=zh (sizeCB _);have HPL:=zh (HPL2.out hlt);obtain⟨UX,hUX⟩:∃X,X=b16 (upd b r 128):=⟨_,rfl⟩
  rw[<-hUX]at YB HXB HPL;have HRX:Hid ((Tryz.prog.info? 157).map (·.size)=some (b16 (plusB (upd b r 128) (key2 key))).size):=zh (sizeCB _);have HRO:Hid ((b16 (plusB (upd b r 128) (key2 key))).all (·.oneCell')=true):=zh (b16_one _);have HZR:Hid (ZB.size=(b16 (plusB (upd b r 128) (key2 key))).size):=zh (by rw[HZB.out];exact HZ16.out _);have HRR:Hid (b16 (lastB key b r)=b16 (plusB (upd b r 128) (key2 key))):=zh (by unfold lastB;rw[if_neg h16]);obtain⟨RX,hRX⟩:∃X,X=b16 (plusB (upd b r 128) (key2 key)):=⟨_,rfl⟩
  rw[<-hRX]at HRX HRO HZR HRR HPL;clear hRX hUX x1 x2 x3 x4 c1 f1;go_wp2_with (first
   | (refine wpList_load_row rfl _ _ rfl bb rfl 157 UX (0,0) _ YB.out HUC.out rfl HXB.out ?_)
   | (refine wpList_load_row rfl _ _ rfl (cb+1) rfl 23 K2 (0,0) _ YK2.out HUK.out rfl HSK2.out ?_)
   | (go_at_call 128;with_reducible refine(HPL.out _).mono ?_;rintro e w5 ⟨rfl,hB⟩;have E5:=zh hB;have Z5:=zh (YZ.out.below hB YZ.out.lt);clear hB)
   | (refine wpList_store_row rfl _ _ _ rfl (bb+1) RX rfl rfl 157 ZB Z5.out HRX.out HZR.out HRO.out ?_))
  refine bodyPost_ret (v:=.agg RX) (results_cell_row (g:=bb+1) (t:=157) (fr:=(0,0)) Tryz.results126 _ _ RX _ rfl (setRow_heap w5 (bb+1) ZB RX 157 (0,0) Z5.out) HUC.out rfl HRX.out) rfl ⟨by rw[HRR.out],?_⟩;have hx:=YW.out.trans (E5.out.mono YW.out.size)
  exact belowRow hx (by rw[HBB.out];omega) _
end Go.Proofs.YtnadmdadcpemnaaGreat
namespace Go.Proofs.YtnadmdadcpemnaaGreat
set_option linter.unusedVariables false
set_option linter.unusedSimpArgs false
open Go.RowKit
theorem zero_size (n:Nat):(Builtin.zeroCells (Value.int .u8 0).cells n).size=n:=by
 rw[size_zeroCells];simp[Value.cells]
theorem grow_nil (n:Nat) (h0:0 < n) (hn:n<=1000000) (w:World) :
  Calls Tryz.prog 98 #[.slice none 0 0,.int .i64 (n:Int)] w fun e w'=>∃v,e=.returned v/\w'.ownsRow w.heap.size 5 1 v 0 []/\Below w.heap.size w w':=by
 obtain⟨i0,hi0,hz0,hz1,hz2⟩:=info_parts Tryz.infoByte;have hrz:Hid (∀ty,(Builtin.append_ #[35,3] ty #[.slice none 0 0,.int .i64 (n:Int)]).run Tryz.prog w =
   .ok (.slice (some ⟨w.heap.size,0,none⟩) n (grownCap w n 0 5)) (w.drew.alloc (.cells (Builtin.zeroCells (Value.int .u8 0).cells n++Builtin.zeroCells (Value.int .u8 0).cells (grownCap w n 0 5 - n)) 5))):=zh fun ty=>
  Lib.run_append_nil_zeros w 35 3 ty 5 i0 (.int .u8 0) .i64 .i64 Tryz.underlying35 Tryz.underlying3 hi0 hz0 n h0 (by rw[hz1];decide) (by omega) (by rw[hz2];omega)
 have hG:=grownCap_ge w n 0 5;have hG2:=grownCap_le_maxLen w n 0 5 (by unfold maxLen;omega);obtain⟨G,hGe⟩:∃G,G=grownCap w n 0 5:=⟨_,rfl⟩
 rw[<-hGe]at hrz hG hG2;obtain⟨cs,hcs⟩:∃cs,cs=Builtin.zeroCells (Value.int .u8 0).cells n++Builtin.zeroCells (Value.int .u8 0).cells (G-n):=⟨_,rfl⟩
 rw[<-hcs]at hrz;have hsz:cs.size=G*1:=by rw[hcs,Array.size_append,zero_size,zero_size];omega
 have HSZ:=zh hsz;have HG2:=zh hG2;have hn1:¬((n:Int) < 0):=by omega
 have hn2:(0:Int) < (n:Int):=by omega
 clear hGe hcs hsz hG2;go_enter Tryz.func98,Tryz.ntmps98;go_wp2_with (at_builtin;refine Lib.wpList_append_run _ rfl _ _ _ _ rfl _ _ rfl rfl _ _ (hrz.out _) ?_);go_ret
 exact⟨_,rfl,World.ownsRow_made (base:=w.heap.size) w.drew cs G (Nat.le_refl _) HG2.out HSZ.out,((Below.refl _ w).drew).alloc (Nat.le_refl _) _⟩
def tot (n:Nat->Nat):Nat->Nat
 | 0=>0
 | k+1=>tot n k+n k
def catI (n:Nat->Nat) (z:Nat->Nat->Int):Nat->List Value
 | 0=>[]
 | k+1=>catI n z k++(List.range (n k)).map (fun j=>.int .u8 (z k j))
theorem tot_mono (n:Nat->Nat) (a:Nat):∀d,tot n a<=tot n (a+d)
 | 0=>Nat.le_refl _
 | d+1=>Nat.le_trans (tot_mono n a d) (Nat.le_add_right _ _)
theorem concat_ok (m sb:Nat) (A:Nat->Option Addr) (n c:Nat->Nat) (z:Nat->Nat->Int) (hm:m<=100) (h0:0 < tot n m) (hN:tot n m<=1000000) (w:World) (hsb:sb < w.heap.size)
  (hc:∀k,k < m->w.cell? ⟨sb,k,none⟩=some (.slice (A k) (n k) (c k))) (hr:∀k,k < m->Row w w.heap.size (A k) (n k) (fun j=>.int .u8 (z k j))) :
  Calls Tryz.prog 85 #[.slice (some ⟨sb,0,none⟩) m m] w fun e w'=>∃v,e=.returned v/\w'.ownsRow w.heap.size 5 1 v (tot n m) (catI n z m)/\Below w.heap.size w w':=by
 obtain⟨i0,hi0,hz0,hz1,hz2⟩:=info_parts Tryz.infoByte;have HC:=zh hc;have HR:=zh hr;have HT:=zh (fun k d=>tot_mono n k d);clear hc hr;go_enter Tryz.func85,Tryz.ntmps85;go_wp2;go_loop [3,11] (fun v3 v11=>∃k:Nat,k<=m/\v11=.int .i64 k/\v3=.int .i64 (tot n k:Nat)) (fun _ v=>m-(intOf v).toNat)
 case atStart=>exact⟨0,Nat.zero_le _,rfl,rfl⟩
 case round=>
  obtain⟨k,hk,rfl,rfl⟩:=hrel;by_cases hlt:k < m
  ·have hck:=HC.out k hlt;have ht:tot n k+n k<=1000000:=by have:=HT.out (k+1) (m-(k+1));rw[show k+1+(m-(k+1))=m by omega]at this;exact Nat.le_trans this hN
   obtain⟨t,htt⟩:∃t,t=tot n k:=⟨_,rfl⟩
   have HTT:=zh (show tot n (k+1)=t+n k by rw[htt];rfl);rw[<-htt]at ht ⊢;clear htt;obtain⟨nk,hnk⟩:∃nk,nk=n k:=⟨_,rfl⟩
   rw[<-hnk]at ht hck HTT;clear hnk;have hni:¬((t:Int)+(nk:Int) < 0):=by omega
   go_wp2;go_round
   case rel=>exact⟨k+1,by omega,by go_num,by rw[HTT.out];go_num⟩
   case measure=>simp[intOf];omega
  ·obtain rfl:k=m:=by omega
   have HGN:=zh (fun W=>grow_nil (tot n k) h0 hN W);obtain⟨N,hNe⟩:∃N,N=tot n k:=⟨_,rfl⟩
   rw[<-hNe]at HGN h0 hN ⊢;have HNE:=zh hNe;clear hNe;go_wp2_with (go_at_call 98;refine(HGN.out _).mono ?_;rintro e w1 ⟨v1,rfl,ho1,b1⟩;have HO1:=zh ho1;have B1:=zh b1;clear ho1 b1);go_loopw [6,27] (fun v6 v27 wr=>∃q:Nat,q<=k/\v27=.int .i64 q/\wr.ownsRow w.heap.size 5 1 v6 (tot n q) (catI n z q)/\Below w.heap.size w wr) (fun _ v _=>k-(intOf v).toNat)
   case atStart=>exact⟨0,Nat.zero_le _,rfl,HO1.out,B1.out⟩
   case round=>
    obtain⟨q,hq,rfl,hoq,hbq⟩:=hrel;by_cases hlt2:q < k
    ·have hcq:=(hbq.cell (p:=⟨sb,q,none⟩) hsb).trans (HC.out q hlt2);have hrq:=(HR.out q hlt2).next hbq;have ht:tot n q+n q<=1000000:=by have:=HT.out (q+1) (k-(q+1));rw[show q+1+(k-(q+1))=k by omega,<-HNE.out]at this;exact Nat.le_trans this hN
     have HOQ:=zh hoq;have HBQ:=zh hbq;have HRQ:=zh hrq;clear hoq hbq hrq;go_wp2_with (at_builtin;refine wpList_append_src _ rfl _ _ 35 rfl w.heap.size 5 i0 (.int .u8 0) 1 Tryz.underlying35 hi0 hz0 hz1 hz2 rfl _ _ _ rfl HOQ.out wr.heap.size (A q) (n q) (c q) (fun j=>.int .u8 (z q j)) rfl HRQ.out (fun _=>rfl) (by unfold maxLen;omega) (by omega) HBQ.out.size ?_;intro v2 w2 hown2 hg2 _;have HO2:=zh hown2;have B2:=zh (HBQ.out.grown hg2 HBQ.out.size (fun k hk=>(HOQ.out.lt k hk).1));clear hown2 hg2);go_roundw
     case rel=>exact⟨q+1,by omega,by go_num,HO2.out,B2.out⟩
     case measure=>simp[intOf];omega
    ·obtain rfl:q=k:=by omega
     have HOQ:=zh hoq;have HBQ:=zh hbq;clear hoq hbq;go_wp2;go_ret
     exact⟨_,rfl,by rw[HNE.out];exact HOQ.out,HBQ.out⟩
def catY (n:Nat->Nat) (z:Nat->Nat->Int):Nat->Nat->Int
 | 0,_=>0
 | k+1,j=>if j < tot n k then catY n z k j else z k (j-tot n k)
theorem catI_len (n:Nat->Nat) (z:Nat->Nat->Int):∀k,(catI n z k).length=tot n k
 | 0=>rfl
 | k+1=>by show(catI n z k++_).length=tot n k+n k;rw[List.length_append,catI_len n z k];simp
theorem catI_at (n:Nat->Nat) (z:Nat->Nat->Int):∀k j,j < tot n k->(catI n z k)[j]? = some (.int .u8 (catY n z k j))
 | 0,j,h=>absurd h (by simp[tot])
 | k+1,j,h=>by
  show(catI n z k++_)[j]? = some (.int .u8 (if j < tot n k then _ else _));by_cases hj:j < tot n k
  ·rw[if_pos hj,List.getElem?_append_left (by rw[catI_len];exact hj)]
   exact catI_at n z k j hj
  ·rw[if_neg hj,List.getElem?_append_right (by rw[catI_len];omega),catI_len];have h2:j-tot n k < n k:=by have:j < tot n k+n k:=h;omega
   simp[h2]
end Go.Proofs.YtnadmdadcpemnaaGreat
namespace Go.Proofs.YtnadmdadcpemnaaGreat
set_option linter.unusedVariables false
set_option linter.unusedSimpArgs false
open Go.RowKit
attribute [local go_sem ↓] Go.wp_at_zero Go.wp_at_succ
def CodeOK:Prop:=∀(key:Nat->Nat) (ct b d:Nat),B16 key->ct < 4294967296->b < 32->d < 2->∀(A:Option Addr) (n c:Nat) (z:Nat->Nat) (V:World),n<=16384->(∀j,j < n->z j < 256)->Row V V.heap.size A n (fun j=>.int .u8 ((z j:Nat):Int))->
 Calls Tryz.prog 84 #[.agg (b16 key),.int .u32 ct,.int .i64 b,.int .i64 d,.slice A n c] V fun e w'=>e=.returned (.tuple #[.int .u32 (codeF key ct b d z n:Nat),.int .i64 0])/\Below V.heap.size V w'
theorem own_sl {w:World} {base n:Nat} {v:Value} {xs:List Value} (h:w.ownsRow base 5 1 v n xs):∃A c,v=.slice A n c/\SL w 5 1 A n c xs/\Fresh base A:=by
 obtain⟨hl,⟨hv,hn⟩ | ⟨g,cap,cur,hv,hg,hh,hc,hm,hs,ht⟩⟩:=h
 ·subst hn
  exact⟨none,0,hv,⟨hl,.inl ⟨rfl,rfl,rfl⟩⟩,fun a e=>by cases e⟩
 ·refine⟨_,cap,hv,⟨hl,.inr ⟨g,0,cur,rfl,hh,hc,hm,by rw[hs];omega,fun j hj=>?_⟩⟩,fun a e=>by cases e;exact hg⟩;rw[Nat.zero_add,<-ht,List.getElem?_take,if_pos hj,Array.getElem?_toList]
end Go.Proofs.YtnadmdadcpemnaaGreat
