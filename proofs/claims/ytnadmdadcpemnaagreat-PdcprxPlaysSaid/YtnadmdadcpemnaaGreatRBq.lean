import Derived.Test.YtnadmdadcpemnaaGreatRAq
set_option maxRecDepth 100000
set_option maxHeartbeats 1600000
namespace Go.Proofs.YtnadmdadcpemnaaGreat
set_option linter.unusedVariables false
set_option linter.unusedSimpArgs false
open Go.RowKit
attribute [local go_sem ↓] Go.wp_at_zero Go.wp_at_succ
def xorK (a b:Nat->Nat) (k:Nat):Nat->Nat:=fun j=>if j < k then a j ^^^ b j else a j
theorem xorK_set (a b:Nat->Nat) (k:Nat) (hk:k < 16):(b16 (xorK a b k)).setIfInBounds k (.int .u8 ((a k ^^^ b k:Nat):Int))=b16 (xorK a b (k+1)):=by
 rw[b16_set _ _ _ hk];refine b16_congr fun j hj=>?_;unfold upd xorK;by_cases e:j=k
 ·subst e;rw[if_pos rfl,if_pos (by omega)]
 ·rw[if_neg e];by_cases h2:j < k
  ·rw[if_pos h2,if_pos (by omega)]
  ·rw[if_neg h2,if_neg (by omega)]
theorem size16 (f:Nat->Nat):(Tryz.prog.info? 23).map (·.size)=some (b16 f).size:=by rw[b16_size];kernel_rfl
theorem radd_ok (a b:Nat->Nat) (ha:B16 a) (hb:B16 b) (w:World):Calls Tryz.prog 89 #[.agg (b16 a),.agg (b16 b)] w fun e w'=>e=.returned (.agg (b16 (fun j=>a j ^^^ b j)))/\Below w.heap.size w w':=by
 have HA8:=Lib.hid ha;have HB8:=Lib.hid hb;have HE:Hid (b16 (xorK a b 16)=b16 (fun j=>a j ^^^ b j)):=Lib.hid (b16_congr fun j hj=>by unfold xorK;rw[if_pos hj]);have HS:=Lib.hid (fun k hk=>xorK_set a b k hk);have HAT:=Lib.hid (fun k (hk:k < 16)=>(b16_at (xorK a b k) hk).trans (by unfold xorK;rw[if_neg (by omega)]));have HBT:=Lib.hid (fun k (hk:k < 16)=>b16_at b hk);obtain⟨E,hE⟩:∃E:Nat->Array Value,E=fun k=>b16 (xorK a b k):=⟨_,rfl⟩
 have HX:=Lib.hid (fun k=>show(Tryz.prog.info? 23).map (·.size)=some (E k).size by rw[hE];exact size16 _);have HO:=Lib.hid (fun k=>show(E k).all (·.oneCell')=true by rw[hE];exact b16_one _);have H0:Hid (b16 a=E 0):=Lib.hid (by rw[hE];exact b16_congr fun j hj=>by unfold xorK;rw[if_neg (by omega)]);have HZ:Hid ((#[.int .u8 0,.int .u8 0,.int .u8 0,.int .u8 0,.int .u8 0,.int .u8 0,.int .u8 0,.int .u8 0,.int .u8 0,.int .u8 0,.int .u8 0,.int .u8 0,.int .u8 0,.int .u8 0,.int .u8 0,.int .u8 0]:Array Value).size=(E 16).size):=Lib.hid (by rw[hE,b16_size];rfl);have HE2:Hid (E 16=b16 (fun j=>a j ^^^ b j)):=Lib.hid (by rw[hE];exact HE.out);have HS2:Hid (∀k,k < 16->(E k).setIfInBounds k (.int .u8 ((a k ^^^ b k:Nat):Int))=E (k+1)):=Lib.hid (by rw[hE];exact HS.out);have HAT2:Hid (∀k,k < 16->(E k)[k]? = some (.int .u8 ((a k:Nat):Int))):=Lib.hid (by rw[hE];exact HAT.out);obtain⟨BA,hBA⟩:∃BA,BA=b16 b:=⟨_,rfl⟩
 rw[<-hBA]at HBT ⊢;rw[H0.out,<-HE2.out];clear hE hBA ha hb HE HS HAT HE2 H0;go_enter Tryz.func89,Tryz.ntmps89;go_upto_region 1 with (fail)
 obtain⟨g,hg⟩:∃g,g=w.heap.size:=⟨_,rfl⟩
 obtain⟨h,hh⟩:∃h,h=g+1:=⟨_,rfl⟩
 obtain⟨o,ho⟩:∃o,o=g+1+1:=⟨_,rfl⟩
 refine wp_let (fun V=>Blk V g 23 (E 0)/\Blk V h 23 BA/\Blk V o 23 #[.int .u8 0,.int .u8 0,.int .u8 0,.int .u8 0,.int .u8 0,.int .u8 0,.int .u8 0,.int .u8 0,.int .u8 0,.int .u8 0,.int .u8 0,.int .u8 0,.int .u8 0,.int .u8 0,.int .u8 0,.int .u8 0]/\Below w.heap.size w V) ⟨by rw[hg];exact((blk_atA _ _ _ _ rfl).alloc _).alloc _,by rw[hh,hg];exact(blk_atA _ _ _ _ (by simp)).alloc _,by rw[ho,hg];exact blk_atA _ _ _ _ (by simp),((bnA _).alloc (by simp) _).alloc (by simp;omega) _⟩ ?_;rintro W1 ⟨b1,b2,b3,b4⟩;have B1:=Lib.hid b1;have B2:=Lib.hid b2;have B3:=Lib.hid b3;have B4:=Lib.hid b4;have HSZ:=Lib.hid (show w.heap.size<=g/\g < h/\h < o by omega);rw[<-hg,<-ho,<-hh];clear b1 b2 b3 b4 hg hh ho;go_wp2;go_loopw [5] (fun x wr=>∃k:Nat,k<=16/\x=.int .i64 k/\Blk wr g 23 (E k)/\Blk wr h 23 BA/\Blk wr o 23 #[.int .u8 0,.int .u8 0,.int .u8 0,.int .u8 0,.int .u8 0,.int .u8 0,.int .u8 0,.int .u8 0,.int .u8 0,.int .u8 0,.int .u8 0,.int .u8 0,.int .u8 0,.int .u8 0,.int .u8 0,.int .u8 0]/\Below w.heap.size w wr) (fun x _=>16-(intOf x).toNat)
 case atStart=>exact⟨0,by omega,rfl,B1.out,B2.out,B3.out,B4.out⟩
 case round=>
  clear B1 B2 B3 B4;obtain⟨k,hk,rfl,hA,hB,hO,hb⟩:=hrel;have HA:=Lib.hid hA;have HB:=Lib.hid hB;have HOO:=Lib.hid hO;have HBW:=Lib.hid hb;clear hA hB hO hb;by_cases hlt:k < 16
  ·have k0:(0:Int)<=(k:Int):=by omega
   have k1:(k:Int) < 16:=by omega
   have cA:wr.cell? ⟨g,k,none⟩=some (.int .u8 ((a k:Nat):Int)):=(HA.out.cell k).trans (HAT2.out k hlt);have cB:wr.cell? ⟨h,k,none⟩=some (.int .u8 ((b k:Nat):Int)):=(HB.out.cell k).trans (HBT.out k hlt);have fA:=HA.out.frozen k;have x1:=bx (a k) (b k) _ (HA8.out k hlt) (HB8.out k hlt) rfl;have HSk:=Lib.hid (HS2.out k hlt);generalize a k ^^^ b k=z at x1 HSk;generalize a k=x at cA x1;generalize b k=y at cB x1;go_upto_region 4 with (fail)
   go_region;go_wp2;go_roundw
   case rel=>
    refine⟨k+1,by omega,by go_num,?_,(HB.out.far (p:=⟨g,k,none⟩) (by have:=HSZ.out;show ¬h=g;omega) _).drew,(HOO.out.far (p:=⟨g,k,none⟩) (by have:=HSZ.out;show ¬o=g;omega) _).drew,(HBW.out.setCell (p:=⟨g,k,none⟩) HSZ.out.1 _).drew⟩;rw[<-HSk.out]
    exact(HA.out.set_ k _).drew
   case measure=>simp[intOf];omega
  ·obtain rfl:k=16:=by omega
   have n1:¬(16:Int) < 16:=by omega
   have HX16:=Lib.hid (HX.out 16);have HO16:=Lib.hid (HO.out 16);obtain⟨X,hX⟩:∃X,X=E 16:=⟨_,rfl⟩
   rw[<-hX]at HA HX16 HO16 HZ;have HXE:=Lib.hid hX;clear hX;go_wp2_with (first
    | (refine wpList_load_row rfl _ _ rfl g rfl 23 X (0,0) _ HA.out Tryz.underlying23 rfl HX16.out ?_)
    | (refine wpList_store_row rfl _ _ _ rfl o X rfl rfl 23 _ HOO.out HX16.out HZ.out HO16.out ?_))
   refine bodyPost_ret (v:=.agg X) (results_cell_row (g:=o) (t:=23) (fr:=(0,0)) Tryz.results89 _ _ X _ rfl (setRow_heap wr o _ X 23 (0,0) HOO.out) Tryz.underlying23 rfl HX16.out) rfl ⟨by rw[HXE.out],?_⟩
   exact belowRow HBW.out (by have:=HSZ.out;omega) _
end Go.Proofs.YtnadmdadcpemnaaGreat
