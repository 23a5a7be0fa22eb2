import Derived.Test.YtnadmdadcpemnaaGreatVIq
import Derived.Test.YtnadmdadcpemnaaGreatNAq
set_option maxRecDepth 100000
set_option maxHeartbeats 1600000
namespace Go.Proofs.YtnadmdadcpemnaaGreat
set_option linter.unusedVariables false
set_option linter.unusedSimpArgs false
open Go.RowKit
attribute [local go_sem ↓] Go.wp_at_zero Go.wp_at_succ
theorem blk_atA (W:World) (t:TypeId) (cs:Array Value) (N:Nat) (hN:W.heap.size=N):Blk (W.alloc (.cells cs t)) N t cs:=by
 subst hN;exact Blk.new W t cs
def eachK (F:Nat->Nat->Nat) (b:Nat->Nat) (k:Nat):Nat->Nat:=fun j=>if j < k then F j (b j) else b j
theorem eachK_zero (F:Nat->Nat->Nat) (b:Nat->Nat):eachK F b 0=b:=by
 funext j
 unfold eachK;rw[if_neg (by omega)]
theorem b16_congr {f g:Nat->Nat} (h:∀j,j < 16->f j=g j):b16 f=b16 g:=by
 apply Array.ext_getElem?;intro j;by_cases hj:j < 16
 ·rw[b16_at _ hj,b16_at _ hj,h j hj]
 ·rw[Array.getElem?_eq_none (by rw[b16_size];omega),Array.getElem?_eq_none (by rw[b16_size];omega)]
theorem eachK_set (F:Nat->Nat->Nat) (b:Nat->Nat) (k:Nat) (hk:k < 16):(b16 (eachK F b k)).setIfInBounds k (.int .u8 (F k (b k):Nat))=b16 (eachK F b (k+1)):=by
 rw[b16_set _ _ _ hk];refine b16_congr fun j hj=>?_;unfold upd eachK;by_cases e:j=k
 ·subst e;rw[if_pos rfl,if_pos (by omega)]
 ·rw[if_neg e];by_cases h2:j < k
  ·rw[if_pos h2,if_pos (by omega)]
  ·rw[if_neg h2,if_neg (by omega)]
theorem eachK_all (F:Nat->Nat->Nat) (b:Nat->Nat):b16 (eachK F b 16)=b16 (fun i=>F i (b i)):=b16_congr fun j hj=>by unfold eachK;rw[if_pos hj]
theorem sizeBlock (b:Nat->Nat):(Tryz.prog.info? 213).map (·.size)=some (b16 b).size:=by rw[b16_size];kernel_rfl
theorem each_sub_ok (b:Nat->Nat) (hb:B16 b) (F:Nat->Nat->Nat) (c1:Value) (w:World)
  (HC:∀W,Below w.heap.size w W->∀i,i < 16->Calls Tryz.prog 168 #[.int .i64 (i:Nat),.int .u8 (b i:Nat),c1] W fun e W'=>e=.returned (.int .u8 (F i (b i):Nat))/\Below W.heap.size W W') :
  Calls Tryz.prog 166 #[.agg (b16 b),.func (.func 168) #[] #[c1]] w fun e w'=>e=.returned (.agg (b16 fun i=>F i (b i)))/\Below w.heap.size w w':=by
 have HCH:=zh HC;have HEA:=zh (eachK_all F b);have HAT:=zh (fun j hj=>b16_at b (j:=j) hj);have HSZ:=zh (sizeBlock b);have HSF:=zh (sizeBlock (eachK F b 16));have HO:=zh (b16_one (eachK F b 16));have HE0:=zh (eachK_zero F b);obtain⟨E,hE⟩:∃E:Nat->Array Value,E=fun k=>b16 (eachK F b k):=⟨_,rfl⟩
 obtain⟨BA,hBA⟩:∃BA,BA=b16 b:=⟨_,rfl⟩
 obtain⟨ZB,hZB⟩:∃ZB:Array Value,ZB=#[.int .u8 0,.int .u8 0,.int .u8 0,.int .u8 0,.int .u8 0,.int .u8 0,.int .u8 0,.int .u8 0,.int .u8 0,.int .u8 0,.int .u8 0,.int .u8 0,.int .u8 0,.int .u8 0,.int .u8 0,.int .u8 0]:=⟨_,rfl⟩
 have HEE:=zh hE;have HES:Hid (∀k,k < 16->(E k).setIfInBounds k (.int .u8 (F k (b k):Nat))=E (k+1)):=zh (by rw[hE];exact fun k hk=>eachK_set F b k hk);have HEC:Hid (∀k,k < 16->∀j,j < 16->(E k)[j]? = some (.int .u8 (eachK F b k j:Nat))):=zh (by rw[hE];exact fun k _ j hj=>b16_at _ hj);have HZS:Hid (ZB.size=16):=zh (by rw[hZB];rfl);rw[<-hBA]at HAT HSZ ⊢;have HBE:Hid (BA=E 0):=zh (by rw[hE,hBA];exact congrArg b16 (eachK_zero F b).symm);have HZB:=zh hZB;clear HC hb hE hBA hZB;go_enter Tryz.func166,Tryz.ntmps166;go_upto_region 1 with (fail)
 obtain⟨bb,hbb⟩:∃bb,bb=w.heap.size:=⟨_,rfl⟩
 refine wp_let (fun V=>Blk V bb 213 BA/\Blk V (bb+1) 213 ZB/\Below w.heap.size w V) ⟨by rw[hbb];exact(Blk.new _ _ _).alloc _,by rw[hbb,HZB.out];exact blk_atA _ _ _ _ (by simp),(bnA _).alloc (by simp) _⟩ ?_;rintro W1 ⟨b1,b2,b3⟩;have B1:=zh b1;have B2:=zh b2;have B3:=zh b3;have HBB:=zh hbb;rw[<-hbb];clear b1 b2 b3 hbb;go_wp2_with (refine wpList_load_row rfl _ _ rfl bb rfl 213 BA (0,0) _ B1.out Tryz.underlying213 rfl HSZ.out ?_);go_loopw [8] (fun v wr=>∃k:Nat,k<=16/\v=.int .i64 k/\Blk wr bb 213 (E k)/\Blk wr (bb+1) 213 ZB/\Below w.heap.size w wr) (fun v _=>16-(intOf v).toNat)
 case atStart=>exact⟨0,by omega,rfl,by rw[<-HBE.out];exact B1.out,B2.out,B3.out⟩
 case round=>
  clear B1 B2 B3;obtain⟨k,hk,rfl,hB,hZ,hb⟩:=hrel;have k0:(0:Int)<=(k:Int):=by omega
  have HB:=zh hB;have HZb:=zh hZ;have HBW:=zh hb;clear hB hZ hb;by_cases hlt:k < 16
  ·have k1:(k:Int) < 16:=by omega
   obtain⟨iu,hiu,hius⟩:=infoU8;have hix:=idx_arr (P:=Tryz.prog) 213 5 16 Tryz.underlying213 iu hiu hius .u8 Tryz.underlying5 BA k hlt _ (HAT.out k hlt);have HCK:=zh (HCH.out wr HBW.out k hlt);have HES':=zh (HES.out k hlt);obtain⟨x,hx⟩:∃x,x=b k:=⟨_,rfl⟩
   obtain⟨y,hy⟩:∃y,y=F k x:=⟨_,rfl⟩
   rw[<-hx]at hix HCK HES';rw[<-hy]at HCK HES';clear hiu hx hy;go_wp2_with (go_at_call 168;refine(HCK.out).mono ?_;rintro e w4 ⟨rfl,hb4⟩;have H4:=zh (HB.out.below hb4 HB.out.lt);have c4:=(H4.out.cell k).trans (HEC.out k hlt k hlt);have f4:=H4.out.frozen k;have Z4:=zh (HZb.out.below hb4 HZb.out.lt);have B4:=zh (HBW.out.trans (hb4.mono HBW.out.size));clear hb4);go_roundw
   case rel=>
    refine⟨k+1,by omega,by go_num,?_,Z4.out.far (p:=⟨bb,k,none⟩) (by show ¬bb+1=bb;omega) _,B4.out.setCell (p:=⟨bb,k,none⟩) (by show w.heap.size<=bb;rw[HBB.out];exact Nat.le_refl _) _⟩;rw[<-HES'.out]
    exact H4.out.set_ k _
   case measure=>simp[intOf];omega
  ·obtain rfl:k=16:=by omega
   have HA:Hid (E 16=b16 fun i=>F i (b i)):=zh (by rw[HEE.out];exact HEA.out);have HO16:Hid ((E 16).all (·.oneCell')=true):=zh (by rw[HEE.out];exact HO.out);have HS16:Hid ((Tryz.prog.info? 213).map (·.size)=some (E 16).size):=zh (by rw[HEE.out];exact HSF.out);have HZ16:Hid (ZB.size=(E 16).size):=zh (by rw[HZS.out,HEE.out,b16_size]);obtain⟨X,hX⟩:∃X,X=E 16:=⟨_,rfl⟩
   rw[<-hX]at HB HA HO16 HS16 HZ16;have n1:¬(16:Int) < 16:=by omega
   clear hX hk;go_wp2_with (first
    | (refine wpList_load_row rfl _ _ rfl bb rfl 213 X (0,0) _ HB.out Tryz.underlying213 rfl HS16.out ?_)
    | (refine wpList_store_row rfl _ _ _ rfl (bb+1) X rfl rfl 213 ZB HZb.out HS16.out HZ16.out HO16.out ?_))
   refine bodyPost_ret (v:=.agg X) (results_cell_row (g:=bb+1) (t:=213) (fr:=(0,0)) Tryz.results166 _ _ X _ rfl (setRow_heap wr (bb+1) ZB X 213 (0,0) HZb.out) Tryz.underlying213 rfl HS16.out) rfl ⟨by rw[HA.out],?_⟩
   exact belowRow HBW.out (by rw[HBB.out];omega) _
theorem each_shift_ok (b:Nat->Nat) (hb:B16 b) (F:Nat->Nat->Nat) (c1:Value) (w:World)
  (HC:∀W,Below w.heap.size w W->∀i,i < 16->Calls Tryz.prog 169 #[.int .i64 (i:Nat),.int .u8 (b i:Nat),c1] W fun e W'=>e=.returned (.int .u8 (F i (b i):Nat))/\Below W.heap.size W W') :
  Calls Tryz.prog 166 #[.agg (b16 b),.func (.func 169) #[] #[c1]] w fun e w'=>e=.returned (.agg (b16 fun i=>F i (b i)))/\Below w.heap.size w w':=by
 have HCH:=zh HC;have HEA:=zh (eachK_all F b);have HAT:=zh (fun j hj=>b16_at b (j:=j) hj);have HSZ:=zh (sizeBlock b);have HSF:=zh (sizeBlock (eachK F b 16));have HO:=zh (b16_one (eachK F b 16));have HE0:=zh (eachK_zero F b);obtain⟨E,hE⟩:∃E:Nat->Array Value,E=fun k=>b16 (eachK F b k):=⟨_,rfl⟩
 obtain⟨BA,hBA⟩:∃BA,BA=b16 b:=⟨_,rfl⟩
 obtain⟨ZB,hZB⟩:∃ZB:Array Value,ZB=#[.int .u8 0,.int .u8 0,.int .u8 0,.int .u8 0,.int .u8 0,.int .u8 0,.int .u8 0,.int .u8 0,.int .u8 0,.int .u8 0,.int .u8 0,.int .u8 0,.int .u8 0,.int .u8 0,.int .u8 0,.int .u8 0]:=⟨_,rfl⟩
 have HEE:=zh hE;have HES:Hid (∀k,k < 16->(E k).setIfInBounds k (.int .u8 (F k (b k):Nat))=E (k+1)):=zh (by rw[hE];exact fun k hk=>eachK_set F b k hk);have HEC:Hid (∀k,k < 16->∀j,j < 16->(E k)[j]? = some (.int .u8 (eachK F b k j:Nat))):=zh (by rw[hE];exact fun k _ j hj=>b16_at _ hj);have HZS:Hid (ZB.size=16):=zh (by rw[hZB];rfl);rw[<-hBA]at HAT HSZ ⊢;have HBE:Hid (BA=E 0):=zh (by rw[hE,hBA];exact congrArg b16 (eachK_zero F b).symm);have HZB:=zh hZB;clear HC hb hE hBA hZB;go_enter Tryz.func166,Tryz.ntmps166;go_upto_region 1 with (fail)
 obtain⟨bb,hbb⟩:∃bb,bb=w.heap.size:=⟨_,rfl⟩
 refine wp_let (fun V=>Blk V bb 213 BA/\Blk V (bb+1) 213 ZB/\Below w.heap.size w V) ⟨by rw[hbb];exact(Blk.new _ _ _).alloc _,by rw[hbb,HZB.out];exact blk_atA _ _ _ _ (by simp),(bnA _).alloc (by simp) _⟩ ?_;rintro W1 ⟨b1,b2,b3⟩;have B1:=zh b1;have B2:=zh b2;have B3:=zh b3;have HBB:=zh hbb;rw[<-hbb];clear b1 b2 b3 hbb;go_wp2_with (refine wpList_load_row rfl _ _ rfl bb rfl 213 BA (0,0) _ B1.out Tryz.underlying213 rfl HSZ.out ?_);go_loopw [8] (fun v wr=>∃k:Nat,k<=16/\v=.int .i64 k/\Blk wr bb 213 (E k)/\Blk wr (bb+1) 213 ZB/\Below w.heap.size w wr) (fun v _=>16-(intOf v).toNat)
 case atStart=>exact⟨0,by omega,rfl,by rw[<-HBE.out];exact B1.out,B2.out,B3.out⟩
 case round=>
  clear B1 B2 B3;obtain⟨k,hk,rfl,hB,hZ,hb⟩:=hrel;have k0:(0:Int)<=(k:Int):=by omega
  have HB:=zh hB;have HZb:=zh hZ;have HBW:=zh hb;clear hB hZ hb;by_cases hlt:k < 16
  ·have k1:(k:Int) < 16:=by omega
   obtain⟨iu,hiu,hius⟩:=infoU8;have hix:=idx_arr (P:=Tryz.prog) 213 5 16 Tryz.underlying213 iu hiu hius .u8 Tryz.underlying5 BA k hlt _ (HAT.out k hlt);have HCK:=zh (HCH.out wr HBW.out k hlt);have HES':=zh (HES.out k hlt);obtain⟨x,hx⟩:∃x,x=b k:=⟨_,rfl⟩
   obtain⟨y,hy⟩:∃y,y=F k x:=⟨_,rfl⟩
   rw[<-hx]at hix HCK HES';rw[<-hy]at HCK HES';clear hiu hx hy;go_wp2_with (go_at_call 169;refine(HCK.out).mono ?_;rintro e w4 ⟨rfl,hb4⟩;have H4:=zh (HB.out.below hb4 HB.out.lt);have c4:=(H4.out.cell k).trans (HEC.out k hlt k hlt);have f4:=H4.out.frozen k;have Z4:=zh (HZb.out.below hb4 HZb.out.lt);have B4:=zh (HBW.out.trans (hb4.mono HBW.out.size));clear hb4);go_roundw
   case rel=>
    refine⟨k+1,by omega,by go_num,?_,Z4.out.far (p:=⟨bb,k,none⟩) (by show ¬bb+1=bb;omega) _,B4.out.setCell (p:=⟨bb,k,none⟩) (by show w.heap.size<=bb;rw[HBB.out];exact Nat.le_refl _) _⟩;rw[<-HES'.out]
    exact H4.out.set_ k _
   case measure=>simp[intOf];omega
  ·obtain rfl:k=16:=by omega
   have HA:Hid (E 16=b16 fun i=>F i (b i)):=zh (by rw[HEE.out];exact HEA.out);have HO16:Hid ((E 16).all (·.oneCell')=true):=zh (by rw[HEE.out];exact HO.out);have HS16:Hid ((Tryz.prog.info? 213).map (·.size)=some (E 16).size):=zh (by rw[HEE.out];exact HSF.out);have HZ16:Hid (ZB.size=(E 16).size):=zh (by rw[HZS.out,HEE.out,b16_size]);obtain⟨X,hX⟩:∃X,X=E 16:=⟨_,rfl⟩
   rw[<-hX]at HB HA HO16 HS16 HZ16;have n1:¬(16:Int) < 16:=by omega
   clear hX hk;go_wp2_with (first
    | (refine wpList_load_row rfl _ _ rfl bb rfl 213 X (0,0) _ HB.out Tryz.underlying213 rfl HS16.out ?_)
    | (refine wpList_store_row rfl _ _ _ rfl (bb+1) X rfl rfl 213 ZB HZb.out HS16.out HZ16.out HO16.out ?_))
   refine bodyPost_ret (v:=.agg X) (results_cell_row (g:=bb+1) (t:=213) (fr:=(0,0)) Tryz.results166 _ _ X _ rfl (setRow_heap wr (bb+1) ZB X 213 (0,0) HZb.out) Tryz.underlying213 rfl HS16.out) rfl ⟨by rw[HA.out],?_⟩
   exact belowRow HBW.out (by rw[HBB.out];omega) _
theorem each_add_ok (b:Nat->Nat) (hb:B16 b) (F:Nat->Nat->Nat) (c1 c2:Value) (w:World)
  (HC:∀W,Below w.heap.size w W->∀i,i < 16->Calls Tryz.prog 167 #[.int .i64 (i:Nat),.int .u8 (b i:Nat),c1,c2] W fun e W'=>e=.returned (.int .u8 (F i (b i):Nat))/\Below W.heap.size W W') :
  Calls Tryz.prog 166 #[.agg (b16 b),.func (.func 167) #[] #[c1,c2]] w fun e w'=>e=.returned (.agg (b16 fun i=>F i (b i)))/\Below w.heap.size w w':=by
 have HCH:=zh HC;have HEA:=zh (eachK_all F b);have HAT:=zh (fun j hj=>b16_at b (j:=j) hj);have HSZ:=zh (sizeBlock b);have HSF:=zh (sizeBlock (eachK F b 16));have HO:=zh (b16_one (eachK F b 16));have HE0:=zh (eachK_zero F b);obtain⟨E,hE⟩:∃E:Nat->Array Value,E=fun k=>b16 (eachK F b k):=⟨_,rfl⟩
 obtain⟨BA,hBA⟩:∃BA,BA=b16 b:=⟨_,rfl⟩
 obtain⟨ZB,hZB⟩:∃ZB:Array Value,ZB=#[.int .u8 0,.int .u8 0,.int .u8 0,.int .u8 0,.int .u8 0,.int .u8 0,.int .u8 0,.int .u8 0,.int .u8 0,.int .u8 0,.int .u8 0,.int .u8 0,.int .u8 0,.int .u8 0,.int .u8 0,.int .u8 0]:=⟨_,rfl⟩
 have HEE:=zh hE;have HES:Hid (∀k,k < 16->(E k).setIfInBounds k (.int .u8 (F k (b k):Nat))=E (k+1)):=zh (by rw[hE];exact fun k hk=>eachK_set F b k hk);have HEC:Hid (∀k,k < 16->∀j,j < 16->(E k)[j]? = some (.int .u8 (eachK F b k j:Nat))):=zh (by rw[hE];exact fun k _ j hj=>b16_at _ hj);have HZS:Hid (ZB.size=16):=zh (by rw[hZB];rfl);rw[<-hBA]at HAT HSZ ⊢;have HBE:Hid (BA=E 0):=zh (by rw[hE,hBA];exact congrArg b16 (eachK_zero F b).symm);have HZB:=zh hZB;clear HC hb hE hBA hZB;go_enter Tryz.func166,Tryz.ntmps166;go_upto_region 1 with (fail)
 obtain⟨bb,hbb⟩:∃bb,bb=w.heap.size:=⟨_,rfl⟩
 refine wp_let (fun V=>Blk V bb 213 BA/\Blk V (bb+1) 213 ZB/\Below w.heap.size w V) ⟨by rw[hbb];exact(Blk.new _ _ _).alloc _,by rw[hbb,HZB.out];exact blk_atA _ _ _ _ (by simp),(bnA _).alloc (by simp) _⟩ ?_;rintro W1 ⟨b1,b2,b3⟩;have B1:=zh b1;have B2:=zh b2;have B3:=zh b3;have HBB:=zh hbb;rw[<-hbb];clear b1 b2 b3 hbb;go_wp2_with (refine wpList_load_row rfl _ _ rfl bb rfl 213 BA (0,0) _ B1.out Tryz.underlying213 rfl HSZ.out ?_);go_loopw [8] (fun v wr=>∃k:Nat,k<=16/\v=.int .i64 k/\Blk wr bb 213 (E k)/\Blk wr (bb+1) 213 ZB/\Below w.heap.size w wr) (fun v _=>16-(intOf v).toNat)
 case atStart=>exact⟨0,by omega,rfl,by rw[<-HBE.out];exact B1.out,B2.out,B3.out⟩
 case round=>
  clear B1 B2 B3;obtain⟨k,hk,rfl,hB,hZ,hb⟩:=hrel;have k0:(0:Int)<=(k:Int):=by omega
  have HB:=zh hB;have HZb:=zh hZ;have HBW:=zh hb;clear hB hZ hb;by_cases hlt:k < 16
  ·have k1:(k:Int) < 16:=by omega
   obtain⟨iu,hiu,hius⟩:=infoU8;have hix:=idx_arr (P:=Tryz.prog) 213 5 16 Tryz.underlying213 iu hiu hius .u8 Tryz.underlying5 BA k hlt _ (HAT.out k hlt);have HCK:=zh (HCH.out wr HBW.out k hlt);have HES':=zh (HES.out k hlt);obtain⟨x,hx⟩:∃x,x=b k:=⟨_,rfl⟩
   obtain⟨y,hy⟩:∃y,y=F k x:=⟨_,rfl⟩
   rw[<-hx]at hix HCK HES';rw[<-hy]at HCK HES';clear hiu hx hy;go_wp2_with (go_at_call 167;refine(HCK.out).mono ?_;rintro e w4 ⟨rfl,hb4⟩;have H4:=zh (HB.out.below hb4 HB.out.lt);have c4:=(H4.out.cell k).trans (HEC.out k hlt k hlt);have f4:=H4.out.frozen k;have Z4:=zh (HZb.out.below hb4 HZb.out.lt);have B4:=zh (HBW.out.trans (hb4.mono HBW.out.size));clear hb4);go_roundw
   case rel=>
    refine⟨k+1,by omega,by go_num,?_,Z4.out.far (p:=⟨bb,k,none⟩) (by show ¬bb+1=bb;omega) _,B4.out.setCell (p:=⟨bb,k,none⟩) (by show w.heap.size<=bb;rw[HBB.out];exact Nat.le_refl _) _⟩;rw[<-HES'.out]
    exact H4.out.set_ k _
   case measure=>simp[intOf];omega
  ·obtain rfl:k=16:=by omega
   have HA:Hid (E 16=b16 fun i=>F i (b i)):=zh (by rw[HEE.out];exact HEA.out);have HO16:Hid ((E 16).all (·.oneCell')=true):=zh (by rw[HEE.out];exact HO.out);have HS16:Hid ((Tryz.prog.info? 213).map (·.size)=some (E 16).size):=zh (by rw[HEE.out];exact HSF.out);have HZ16:Hid (ZB.size=(E 16).size):=zh (by rw[HZS.out,HEE.out,b16_size]);obtain⟨X,hX⟩:∃X,X=E 16:=⟨_,rfl⟩
   rw[<-hX]at HB HA HO16 HS16 HZ16;have n1:¬(16:Int) < 16:=by omega
   clear hX hk;go_wp2_with (first
    | (refine wpList_load_row rfl _ _ rfl bb rfl 213 X (0,0) _ HB.out Tryz.underlying213 rfl HS16.out ?_)
    | (refine wpList_store_row rfl _ _ _ rfl (bb+1) X rfl rfl 213 ZB HZb.out HS16.out HZ16.out HO16.out ?_))
   refine bodyPost_ret (v:=.agg X) (results_cell_row (g:=bb+1) (t:=213) (fr:=(0,0)) Tryz.results166 _ _ X _ rfl (setRow_heap wr (bb+1) ZB X 213 (0,0) HZb.out) Tryz.underlying213 rfl HS16.out) rfl ⟨by rw[HA.out],?_⟩
   exact belowRow HBW.out (by rw[HBB.out];omega) _
theorem each_mixed_ok (b:Nat->Nat) (hb:B16 b) (F:Nat->Nat->Nat) (c1 c2:Value) (w:World)
  (HC:∀W,Below w.heap.size w W->∀i,i < 16->Calls Tryz.prog 185 #[.int .i64 (i:Nat),.int .u8 (b i:Nat),c1,c2] W fun e W'=>e=.returned (.int .u8 (F i (b i):Nat))/\Below W.heap.size W W') :
  Calls Tryz.prog 166 #[.agg (b16 b),.func (.func 185) #[] #[c1,c2]] w fun e w'=>e=.returned (.agg (b16 fun i=>F i (b i)))/\Below w.heap.size w w':=by
 have HCH:=zh HC;have HEA:=zh (eachK_all F b);have HAT:=zh (fun j hj=>b16_at b (j:=j) hj);have HSZ:=zh (sizeBlock b);have HSF:=zh (sizeBlock (eachK F b 16));have HO:=zh (b16_one (eachK F b 16));have HE0:=zh (eachK_zero F b);obtain⟨E,hE⟩:∃E:Nat->Array Value,E=fun k=>b16 (eachK F b k):=⟨_,rfl⟩
 obtain⟨BA,hBA⟩:∃BA,BA=b16 b:=⟨_,rfl⟩
 obtain⟨ZB,hZB⟩:∃ZB:Array Value,ZB=#[.int .u8 0,.int .u8 0,.int .u8 0,.int .u8 0,.int .u8 0,.int .u8 0,.int .u8 0,.int .u8 0,.int .u8 0,.int .u8 0,.int .u8 0,.int .u8 0,.int .u8 0,.int .u8 0,.int .u8 0,.int .u8 0]:=⟨_,rfl⟩
 have HEE:=zh hE;have HES:Hid (∀k,k < 16->(E k).setIfInBounds k (.int .u8 (F k (b k):Nat))=E (k+1)):=zh (by rw[hE];exact fun k hk=>eachK_set F b k hk);have HEC:Hid (∀k,k < 16->∀j,j < 16->(E k)[j]? = some (.int .u8 (eachK F b k j:Nat))):=zh (by rw[hE];exact fun k _ j hj=>b16_at _ hj);have HZS:Hid (ZB.size=16):=zh (by rw[hZB];rfl);rw[<-hBA]at HAT HSZ ⊢;have HBE:Hid (BA=E 0):=zh (by rw[hE,hBA];exact congrArg b16 (eachK_zero F b).symm);have HZB:=zh hZB;clear HC hb hE hBA hZB;go_enter Tryz.func166,Tryz.ntmps166;go_upto_region 1 with (fail)
 obtain⟨bb,hbb⟩:∃bb,bb=w.heap.size:=⟨_,rfl⟩
 refine wp_let (fun V=>Blk V bb 213 BA/\Blk V (bb+1) 213 ZB/\Below w.heap.size w V) ⟨by rw[hbb];exact(Blk.new _ _ _).alloc _,by rw[hbb,HZB.out];exact blk_atA _ _ _ _ (by simp),(bnA _).alloc (by simp) _⟩ ?_;rintro W1 ⟨b1,b2,b3⟩;have B1:=zh b1;have B2:=zh b2;have B3:=zh b3;have HBB:=zh hbb;rw[<-hbb];clear b1 b2 b3 hbb;go_wp2_with (refine wpList_load_row rfl _ _ rfl bb rfl 213 BA (0,0) _ B1.out Tryz.underlying213 rfl HSZ.out ?_);go_loopw [8] (fun v wr=>∃k:Nat,k<=16/\v=.int .i64 k/\Blk wr bb 213 (E k)/\Blk wr (bb+1) 213 ZB/\Below w.heap.size w wr) (fun v _=>16-(intOf v).toNat)
 case atStart=>exact⟨0,by omega,rfl,by rw[<-HBE.out];exact B1.out,B2.out,B3.out⟩
 case round=>
  clear B1 B2 B3;obtain⟨k,hk,rfl,hB,hZ,hb⟩:=hrel;have k0:(0:Int)<=(k:Int):=by omega
  have HB:=zh hB;have HZb:=zh hZ;have HBW:=zh hb;clear hB hZ hb;by_cases hlt:k < 16
  ·have k1:(k:Int) < 16:=by omega
   obtain⟨iu,hiu,hius⟩:=infoU8;have hix:=idx_arr (P:=Tryz.prog) 213 5 16 Tryz.underlying213 iu hiu hius .u8 Tryz.underlying5 BA k hlt _ (HAT.out k hlt);have HCK:=zh (HCH.out wr HBW.out k hlt);have HES':=zh (HES.out k hlt);obtain⟨x,hx⟩:∃x,x=b k:=⟨_,rfl⟩
   obtain⟨y,hy⟩:∃y,y=F k x:=⟨_,rfl⟩
   rw[<-hx]at hix HCK HES';rw[<-hy]at HCK HES';clear hiu hx hy;go_wp2_with (go_at_call 185;refine(HCK.out).mono ?_;rintro e w4 ⟨rfl,hb4⟩;have H4:=zh (HB.out.below hb4 HB.out.lt);have c4:=(H4.out.cell k).trans (HEC.out k hlt k hlt);have f4:=H4.out.frozen k;have Z4:=zh (HZb.out.below hb4 HZb.out.lt);have B4:=zh (HBW.out.trans (hb4.mono HBW.out.size));clear hb4);go_roundw
   case rel=>
    refine⟨k+1,by omega,by go_num,?_,Z4.out.far (p:=⟨bb,k,none⟩) (by show ¬bb+1=bb;omega) _,B4.out.setCell (p:=⟨bb,k,none⟩) (by show w.heap.size<=bb;rw[HBB.out];exact Nat.le_refl _) _⟩;rw[<-HES'.out]
    exact H4.out.set_ k _
   case measure=>simp[intOf];omega
  ·obtain rfl:k=16:=by omega
   have HA:Hid (E 16=b16 fun i=>F i (b i)):=zh (by rw[HEE.out];exact HEA.out);have HO16:Hid ((E 16).all (·.oneCell')=true):=zh (by rw[HEE.out];exact HO.out);have HS16:Hid ((Tryz.prog.info? 213).map (·.size)=some (E 16).size):=zh (by rw[HEE.out];exact HSF.out);have HZ16:Hid (ZB.size=(E 16).size):=zh (by rw[HZS.out,HEE.out,b16_size]);obtain⟨X,hX⟩:∃X,X=E 16:=⟨_,rfl⟩
   rw[<-hX]at HB HA HO16 HS16 HZ16;have n1:¬(16:Int) < 16:=by omega
   clear hX hk;go_wp2_with (first
    | (refine wpList_load_row rfl _ _ rfl bb rfl 213 X (0,0) _ HB.out Tryz.underlying213 rfl HS16.out ?_)
    | (refine wpList_store_row rfl _ _ _ rfl (bb+1) X rfl rfl 213 ZB HZb.out HS16.out HZ16.out HO16.out ?_))
   refine bodyPost_ret (v:=.agg X) (results_cell_row (g:=bb+1) (t:=213) (fr:=(0,0)) Tryz.results166 _ _ X _ rfl (setRow_heap wr (bb+1) ZB X 213 (0,0) HZb.out) Tryz.underlying213 rfl HS16.out) rfl ⟨by rw[HA.out],?_⟩
   exact belowRow HBW.out (by rw[HBB.out];omega) _
end Go.Proofs.YtnadmdadcpemnaaGreat
