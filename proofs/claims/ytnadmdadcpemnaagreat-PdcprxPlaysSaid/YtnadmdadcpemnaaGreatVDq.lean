import Derived.Test.YtnadmdadcpemnaaGreatVEq
set_option maxRecDepth 100000
set_option maxHeartbeats 1600000
namespace Go.Proofs.YtnadmdadcpemnaaGreat
set_option linter.unusedVariables false
set_option linter.unusedSimpArgs false
open Go.RowKit
attribute [local go_sem ↓] Go.wp_at_zero Go.wp_at_succ
def powArr (k:Nat):Array Value:=Array.ofFn (n:=255) fun j=>.int .u8 ((if j.1 < k then pw3 j.1 else 0:Nat):Int)
theorem powArr_size (k:Nat):(powArr k).size=255:=by simp[powArr]
theorem powArr_at (k:Nat) {j:Nat} (h:j < 255):(powArr k)[j]? = some (.int .u8 ((if j < k then pw3 j else 0:Nat):Int)):=by simp[powArr,h]
theorem powArr_set (k:Nat) (hk:k < 255):(powArr k).setIfInBounds k (.int .u8 (pw3 k:Nat))=powArr (k+1):=by
 apply Array.ext_getElem?;intro j;rw[Array.getElem?_setIfInBounds,powArr_size];by_cases hj:j < 255
 ·rw[powArr_at _ hj,powArr_at _ hj];by_cases e:k=j
  ·subst e;rw[if_pos rfl,if_pos hk,if_pos (by omega)]
  ·rw[if_neg e];by_cases h2:j < k
   ·rw[if_pos h2,if_pos (by omega)]
   ·rw[if_neg h2,if_neg (by omega)]
 ·rw[if_neg (by omega),Array.getElem?_eq_none (by rw[powArr_size];omega),Array.getElem?_eq_none (by rw[powArr_size];omega)]
theorem zeroBoxes:Tryz.zeroCells211 = boxArr (fun _=>0) (fun _=>0):=by kernel_rfl
theorem zeroPow:Tryz.zeroCells244 = powArr 0:=by kernel_rfl
theorem boxArr_one (f g:Nat->Nat):(boxArr f g).all (·.oneCell')=true:=by
 rw[Array.all_eq_true];intro i hi;simp only[boxArr,Array.getElem_ofFn]
 rfl
theorem substitution_ok (w:World):Calls Tryz.prog 143 #[] w fun e w'=>e=.returned (.agg (boxArr sbx isb))/\Below w.heap.size w w':=by
 have HZ:=zeroBoxes;have HZP:=zeroPow;go_enter Tryz.func143,Tryz.ntmps143;go_upto_region 2 with (fail)
 obtain⟨sb,hsb⟩:∃sb,sb=w.heap.size:=⟨_,rfl⟩
 refine wp_let (fun V=>Blk V sb 211 (boxArr (fun _=>0) (fun _=>0))/\Below w.heap.size w V) ⟨by rw[hsb];exact Blk.new _ _ _,bnA _⟩ ?_;rintro W1 ⟨b1,b2⟩;have S1:=zh (set_ok 0 0 (by decide) (by decide) sb _ _ W1 b1);have B1:=zh b2;have HSB:=zh hsb;rw[<-hsb];clear HZ b1 b2 hsb;go_upto_region 5 with (go_at_call 163;refine(S1.out).mono ?_;rintro e w2 ⟨rfl,hB,hK,hs⟩;have H2:=zh hB;have K2:=zh hK;clear hB hK hs)
 obtain⟨pb,hpb⟩:∃pb,pb=w2.heap.size:=⟨_,rfl⟩
 have hsp:sb ≠ pb:=by have:=H2.out.lt;omega
 refine wp_let (fun V=>Blk V sb 211 (boxArr (boxK 0) (invK 0))/\Blk V pb 244 (powArr 0)/\Below w.heap.size w V) ⟨H2.out.alloc _,by rw[hpb];exact Blk.new _ _ _,(KeepF.below B1.out K2.out (fun k e=>by rw[e,HSB.out];exact Nat.le_refl _) (by have:=B1.out.size;omega)).alloc (by have:=K2.out.size;have:=B1.out.size;omega) _⟩ ?_;rintro W3 ⟨b1,b2,b3⟩;have F0:=zh (And.intro b1 (And.intro b2 b3));have hp0:w.heap.size<=pb:=by have:=K2.out.size;have:=B1.out.size;omega
 have HPB:=zh hp0;rw[<-hpb];clear b1 b2 b3 hpb HZP hp0;go_wp2;go_loopw [3,10] (fun v3 v10 wr=>∃k:Nat,k<=255/\v10=.int .i64 k/\v3=.int .u8 (pw3 k:Nat)/\Blk wr sb 211 (boxArr (boxK 0) (invK 0))/\Blk wr pb 244 (powArr k)/\Below w.heap.size w wr) (fun _ v10 _=>255-(intOf v10).toNat)
 case atStart=>exact⟨0,by omega,rfl,rfl,F0.out.1,F0.out.2.1,F0.out.2.2⟩
 case round=>
  clear F0;obtain⟨k,hk,rfl,rfl,hB,hP,hb⟩:=hrel;have k0:(0:Int)<=(k:Int):=by omega
  have HB:=zh hB;have HP:=zh hP;have HBW:=zh hb;clear hB hP hb;by_cases hlt:k < 255
  ·have k1:(k:Int) < 255:=by omega
   have c0:=HP.out.cell k;rw[powArr_at k hlt]at c0;have f0:=HP.out.frozen k;have hx:=bx (pw3 k) (dbl (pw3 k)) (pw3 (k+1)) (pw3_lt k) (dbl_lt _) rfl;have HD:=zh (fun V=>double_ok (pw3 k) (pw3_lt k) V);have HS:=zh (powArr_set k hlt);obtain⟨p,hp⟩:∃p,p=pw3 k:=⟨_,rfl⟩
   obtain⟨p',hp'⟩:∃p',p'=pw3 (k+1):=⟨_,rfl⟩
   obtain⟨d,hd⟩:∃d,d=dbl (pw3 k):=⟨_,rfl⟩
   rw[<-hd]at hx HD;rw[<-hp']at hx;rw[<-hp]at hx HD HS ⊢;have HP':=zh hp';clear hp hp' hd;go_wp2_with (go_at_call 165;refine(HD.out _).mono ?_;rintro e w4 ⟨rfl,rfl⟩);go_roundw
   case rel=>
    refine⟨k+1,by omega,by go_num,by rw[HP'.out],HB.out.far (p:=⟨pb,k,none⟩) hsp _,?_,HBW.out.setCell (p:=⟨pb,k,none⟩) HPB.out _⟩;rw[<-HS.out]
    exact HP.out.set_ k _
   case measure=>simp[intOf];omega
  ·obtain rfl:k=255:=by omega
   have HU:=zh Tryz.underlying244;have HSZ:Hid ((Tryz.prog.info? 244).map (·.size)=some (powArr 255).size):=zh (by rw[powArr_size];kernel_rfl);have HAT:=zh (fun(j:Nat) (h:j < 255)=>(powArr_at 255 h).trans (by rw[if_pos h]));have HCEL:=zh (fun(V:World) (h:Blk V pb 244 (powArr 255)) (j:Nat) (hj:j < 255)=>(h.cell j).trans ((powArr_at 255 hj).trans (by rw[if_pos hj])));obtain⟨PW,hPW⟩:∃PW,PW=powArr 255:=⟨_,rfl⟩
   rw[<-hPW]at HP HSZ HAT HCEL;clear hPW hk;obtain⟨p0,hp0⟩:∃p0,p0=pw3 255:=⟨_,rfl⟩
   rw[<-hp0];clear hp0;have n1:¬(255:Int) < 255:=by omega
   go_wp2_with (refine wpList_load_row rfl _ _ rfl pb rfl 244 PW (0,0) _ HP.out HU.out rfl HSZ.out ?_);go_loopw [22] (fun v wq=>∃j:Nat,j<=255/\v=.int .i64 j/\Blk wq sb 211 (boxArr (boxK j) (invK j))/\Blk wq pb 244 PW/\Below w.heap.size w wq) (fun v _=>255-(intOf v).toNat)
   case atStart=>exact⟨0,by omega,rfl,HB.out,HP.out,HBW.out⟩
   case round=>
    clear HB HP HBW;obtain⟨j,hj,rfl,hB,hP,hb⟩:=hrel;have j0:(0:Int)<=(j:Int):=by omega
    have HB:=zh hB;have HP:=zh hP;have HBW:=zh hb;clear hB hP hb;by_cases hlt2:j < 255
    ·have j1:(j:Int) < 255:=by omega
     obtain⟨iu,hiu,hius⟩:=infoU8;have hix:=idx_arr (P:=Tryz.prog) 244 5 255 Tryz.underlying244 iu hiu hius .u8 Tryz.underlying5 PW j hlt2 _ (HAT.out j hlt2);obtain⟨q,hq⟩:∃q,q=(255-j) % 255:=⟨_,rfl⟩
     have hq5:q < 255:=by rw[hq];exact Nat.mod_lt _ (by decide)
     have hrem:Int.tmod (255-(j:Int)) 255=(q:Int):=by
      rw[hq,show(255:Int)-(j:Int)=((255-j:Nat):Int) by omega]
      exact(Int.natCast_emod (255-j) 255).symm ▸ rfl
     have c0:=HCEL.out wr HP.out q hq5;have q0:(0:Int)<=(q:Int):=by omega
     have q1:(q:Int) < 255:=by omega
     have HS:=zh (set_ok (pw3 j) (pw3 q) (pw3_lt _) (pw3_lt _) sb _ _ wr HB.out);have HBK:=zh (show boxK (j+1)=upd (boxK j) (pw3 j) (aff (pw3 q))from by rw[boxK,hq]);have HIK:=zh (show invK (j+1)=upd (invK j) (aff (pw3 q)) (pw3 j)from by rw[invK,hq]);obtain⟨x,hx⟩:∃x,x=pw3 j:=⟨_,rfl⟩
     obtain⟨y,hy⟩:∃y,y=pw3 q:=⟨_,rfl⟩
     rw[<-hx]at hix HS HBK HIK;rw[<-hy]at c0 HS HBK HIK;clear hx hy hq hiu;go_wp2_with (go_at_call 163;refine(HS.out).mono ?_;rintro e w4 ⟨rfl,hB,hK,hs⟩;have H4:=zh hB;have K4:=zh hK;clear hB hK hs);go_roundw
     case rel=>exact⟨j+1,by omega,by go_num,by rw[HBK.out,HIK.out];exact H4.out,K4.out.blk HP.out (fun e=>hsp e.symm),KeepF.below HBW.out K4.out (fun k e=>by rw[e,HSB.out];exact Nat.le_refl _) HBW.out.size⟩
     case measure=>simp[intOf];omega
    ·obtain rfl:j=255:=by omega
     have HSZ2:Hid ((Tryz.prog.info? 211).map (·.size)=some (boxArr sbx isb).size):=zh (by rw[boxArr_size];kernel_rfl);have HU2:=zh Tryz.underlying211;have HO:=zh (boxArr_one sbx isb);have HBX:Hid (Blk wr sb 211 (boxArr sbx isb)):=zh HB.out;obtain⟨BX,hBX⟩:∃BX,BX=boxArr sbx isb:=⟨_,rfl⟩
     rw[<-hBX]at HSZ2 HO HBX;have HBXE:=zh hBX;have HWS:=zh (show Below w.heap.size w (wr.setRow sb BX)from ⟨HBW.out.os,HBW.out.tape,HBW.out.output,by rw[size_setRow];exact HBW.out.size,fun i hi=>(setRow_other wr sb i BX (by have:=HSB.out;omega)).trans (HBW.out.block i hi)⟩);have HBS:=zh (show(wr.setRow sb BX).heap[sb]? = some (.cells BX 211 (0,0))from setRow_heap wr sb BX BX 211 (0,0) HBX.out);have n2:¬(255:Int) < 255:=by omega
     clear hBX HB HP;go_wp2_with (first
      | (refine wpList_load_row rfl _ _ rfl sb rfl 211 BX (0,0) _ HBX.out HU2.out rfl HSZ2.out ?_)
      | (refine wpList_store_row rfl _ _ _ rfl sb BX rfl rfl 211 BX HBX.out HSZ2.out rfl HO.out ?_))
     refine bodyPost_ret (v:=.agg BX) (results_cell_row (g:=sb) (t:=211) (fr:=(0,0)) Tryz.results143 _ _ BX _ rfl HBS.out HU2.out rfl HSZ2.out) rfl ⟨by rw[HBXE.out],HWS.out⟩
end Go.Proofs.YtnadmdadcpemnaaGreat
