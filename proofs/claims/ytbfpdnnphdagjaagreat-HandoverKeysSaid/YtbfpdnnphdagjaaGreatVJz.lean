import Derived.Test.YtbfpdnnphdagjaaGreatMVFz
import Derived.Test.YtbfpdnnphdagjaaGreatNAz
set_option maxRecDepth 100000
set_option maxHeartbeats 1600000
set_option linter.unusedVariables false
set_option linter.unusedSimpArgs false
namespace Go.Proofs.YtbfpdnnphdagjaaGreat
open Go.RowKit
attribute [local go_sem ↓] Go.wp_at_zero Go.wp_at_succ
theorem al (W:World) (t:TypeId) (cs:Array Value) (N:Nat) (hN:W.heap.size=N):ae (W.alloc (.cells cs t)) N t cs:=by
 subst hN;exact ae.new W t cs
def cy (F:Nat->Nat->Nat) (b:Nat->Nat) (k:Nat):Nat->Nat:=fun j=>if j < k then F j (b j) else b j
theorem dw (F:Nat->Nat->Nat) (b:Nat->Nat):cy F b 0=b:=by
 funext j
 unfold cy;rw[if_neg (by omega)]
theorem dj {f g:Nat->Nat} (h:∀j,j < 16->f j=g j):am f=am g:=by
 apply Array.ext_getElem?;intro j;by_cases hj:j < 16
 ·rw[aN _ hj,aN _ hj,h j hj]
 ·rw[Array.getElem?_eq_none (by rw[aj];omega),Array.getElem?_eq_none (by rw[aj];omega)]
theorem gO (F:Nat->Nat->Nat) (b:Nat->Nat) (k:Nat) (hk:k < 16):(am (cy F b k)).setIfInBounds k (.int .u8 (F k (b k):Nat))=am (cy F b (k+1)):=by
 rw[iF _ _ _ hk];refine dj fun j hj=>?_;unfold dU cy;by_cases e:j=k
 ·subst e;rw[if_pos rfl,if_pos (by omega)]
 ·rw[if_neg e];by_cases h2:j < k
  ·rw[if_pos h2,if_pos (by omega)]
  ·rw[if_neg h2,if_neg (by omega)]
theorem gH (F:Nat->Nat->Nat) (b:Nat->Nat):am (cy F b 16)=am (fun i=>F i (b i)):=dj fun j hj=>by unfold cy;rw[if_pos hj]
theorem aA (b:Nat->Nat):(Tryz.prog.info? 258).map (·.size)=some (am b).size:=by rw[aj];kernel_rfl
theorem iS (b:Nat->Nat) (hb:bf b) (F:Nat->Nat->Nat) (fn:Nat) (c1:Value) (w:World)
  (hcf:∀(a:Array Value) (W:World),(callFunc fn a).run Tryz.prog W=.ok (.enter fn a) W) (HC:∀W,Below w.heap.size w W->∀i,i < 16->Calls Tryz.prog fn #[.int .i64 (i:Nat),.int .u8 (b i:Nat),c1] W fun e W'=>e=.returned (.int .u8 (F i (b i):Nat))/\Below W.heap.size W W') :
  Calls Tryz.prog 189 #[.agg (am b),.func (.func fn) #[] #[c1]] w fun e w'=>e=.returned (.agg (am fun i=>F i (b i)))/\Below w.heap.size w w':=by
 have HCH:=zh HC;have HEA:=zh (gH F b);have HAT:=zh (fun j hj=>aN b (j:=j) hj);have HSZ:=zh (aA b);have HSF:=zh (aA (cy F b 16));have HO:=zh (aC (cy F b 16));have HE0:=zh (dw F b);obtain⟨E,hE⟩:∃E:Nat->Array Value,E=fun k=>am (cy F b k):=⟨_,rfl⟩
 obtain⟨BA,hBA⟩:=ah (am b)
 obtain⟨ZB,hZB⟩:∃ZB:Array Value,ZB=#[.int .u8 0,.int .u8 0,.int .u8 0,.int .u8 0,.int .u8 0,.int .u8 0,.int .u8 0,.int .u8 0,.int .u8 0,.int .u8 0,.int .u8 0,.int .u8 0,.int .u8 0,.int .u8 0,.int .u8 0,.int .u8 0]:=⟨_,rfl⟩
 have HEE:=zh hE;have HES:Hid (∀k,k < 16->(E k).setIfInBounds k (.int .u8 (F k (b k):Nat))=E (k+1)):=zh (by rw[hE];exact fun k hk=>gO F b k hk);have HEC:Hid (∀k,k < 16->∀j,j < 16->(E k)[j]? = some (.int .u8 (cy F b k j:Nat))):=zh (by rw[hE];exact fun k _ j hj=>aN _ hj);have HZS:Hid (ZB.size=16):=zh (by rw[hZB];rfl);rw[<-hBA]at HAT HSZ ⊢;have HBE:Hid (BA=E 0):=zh (by rw[hE,hBA];exact congrArg am (dw F b).symm);have HZB:=zh hZB;clear HC hb hE hBA hZB;go_enter Tryz.func189,Tryz.ntmps189;go_upto_region 1 with (fail)
 obtain⟨bb,hbb⟩:=ah w.heap.size
 refine ai (fun V=>ae V bb 258 BA/\ae V (bb+1) 258 ZB/\Below w.heap.size w V) ⟨by rw[hbb];exact(ae.new _ _ _).alloc _,by rw[hbb,HZB.out];exact al _ _ _ _ (by simp),(bR _).alloc (by simp) _⟩ ?_;rintro W1 ⟨b1,b2,b3⟩;have B1:=zh b1;have B2:=zh b2;have B3:=zh b3;have HBB:=zh hbb;rw[<-hbb];clear b1 b2 b3 hbb;go_wp2_with (refine wpList_load_row rfl _ _ rfl bb rfl 258 BA (0,0) _ B1.out Tryz.underlying258 rfl HSZ.out ?_);go_loopw [8] (fun v wr=>∃k:Nat,k<=16/\v=.int .i64 k/\ae wr bb 258 (E k)/\ae wr (bb+1) 258 ZB/\Below w.heap.size w wr) (fun v _=>16-(intOf v).toNat)
 case atStart=>exact⟨0,by omega,rfl,by rw[<-HBE.out];exact B1.out,B2.out,B3.out⟩
 case round=>
  clear B1 B2 B3;obtain⟨k,hk,rfl,hB,hZ,hb⟩:=hrel;have k0:(0:Int)<=(k:Int):=by omega
  have HB:=zh hB;have HZb:=zh hZ;have HBW:=zh hb;clear hB hZ hb;by_cases hlt:k < 16
  ·have k1:(k:Int) < 16:=by omega
   obtain⟨iu,hiu,hius⟩:=gR;have hix:=fp (P:=Tryz.prog) 258 5 16 Tryz.underlying258 iu hiu hius .u8 Tryz.underlying5 BA k hlt _ (HAT.out k hlt);have HCK:=zh (HCH.out wr HBW.out k hlt);have HES':=zh (HES.out k hlt);obtain⟨x,hx⟩:=ah (b k)
   obtain⟨y,hy⟩:=ah (F k x)
   rw[<-hx]at hix HCK HES';rw[<-hy]at HCK HES';clear hiu hx hy;go_wp2_with (refine(HCK.out).mono ?_;rintro e w4 ⟨rfl,hb4⟩;have H4:=zh (HB.out.below hb4 HB.out.lt);have c4:=(H4.out.cell k).trans (HEC.out k hlt k hlt);have f4:=H4.out.frozen k;have Z4:=zh (HZb.out.below hb4 HZb.out.lt);have B4:=zh (HBW.out.trans (hb4.mono HBW.out.size));clear hb4);go_roundw
   case rel=>
    refine⟨k+1,by omega,by go_num,?_,Z4.out.far (p:=⟨bb,k,none⟩) (by show ¬bb+1=bb;omega) _,B4.out.setCell (p:=⟨bb,k,none⟩) (by show w.heap.size<=bb;rw[HBB.out];exact Nat.le_refl _) _⟩;rw[<-HES'.out]
    exact H4.out.set_ k _
   case measure=>simp[intOf];omega
  ·obtain rfl:k=16:=by omega
   have HA:Hid (E 16=am fun i=>F i (b i)):=zh (by rw[HEE.out];exact HEA.out);have HO16:Hid ((E 16).all (·.oneCell')=true):=zh (by rw[HEE.out];exact HO.out);have HS16:Hid ((Tryz.prog.info? 258).map (·.size)=some (E 16).size):=zh (by rw[HEE.out];exact HSF.out);have HZ16:Hid (ZB.size=(E 16).size):=zh (by rw[HZS.out,HEE.out,aj]);obtain⟨X,hX⟩:=ah (E 16)
   rw[<-hX]at HB HA HO16 HS16 HZ16;have n1:¬(16:Int) < 16:=by omega
   clear hX hk;go_wp2_with (first
    | (refine wpList_load_row rfl _ _ rfl bb rfl 258 X (0,0) _ HB.out Tryz.underlying258 rfl HS16.out ?_)
    | (refine wpList_store_row rfl _ _ _ rfl (bb+1) X rfl rfl 258 ZB HZb.out HS16.out HZ16.out HO16.out ?_))
   refine bodyPost_ret (v:=.agg X) (results_cell_row (g:=bb+1) (t:=258) (fr:=(0,0)) Tryz.results189 _ _ X _ rfl (setRow_heap wr (bb+1) ZB X 258 (0,0) HZb.out) Tryz.underlying258 rfl HS16.out) rfl ⟨by rw[HA.out],?_⟩
   exact ak HBW.out (by rw[HBB.out];omega) _
theorem iV (b:Nat->Nat) (hb:bf b) (F:Nat->Nat->Nat) (fn:Nat) (c1 c2:Value) (w:World)
  (hcf:∀(a:Array Value) (W:World),(callFunc fn a).run Tryz.prog W=.ok (.enter fn a) W) (HC:∀W,Below w.heap.size w W->∀i,i < 16->Calls Tryz.prog fn #[.int .i64 (i:Nat),.int .u8 (b i:Nat),c1,c2] W fun e W'=>e=.returned (.int .u8 (F i (b i):Nat))/\Below W.heap.size W W') :
  Calls Tryz.prog 189 #[.agg (am b),.func (.func fn) #[] #[c1,c2]] w fun e w'=>e=.returned (.agg (am fun i=>F i (b i)))/\Below w.heap.size w w':=by
 have HCH:=zh HC;have HEA:=zh (gH F b);have HAT:=zh (fun j hj=>aN b (j:=j) hj);have HSZ:=zh (aA b);have HSF:=zh (aA (cy F b 16));have HO:=zh (aC (cy F b 16));have HE0:=zh (dw F b);obtain⟨E,hE⟩:∃E:Nat->Array Value,E=fun k=>am (cy F b k):=⟨_,rfl⟩
 obtain⟨BA,hBA⟩:=ah (am b)
 obtain⟨ZB,hZB⟩:∃ZB:Array Value,ZB=#[.int .u8 0,.int .u8 0,.int .u8 0,.int .u8 0,.int .u8 0,.int .u8 0,.int .u8 0,.int .u8 0,.int .u8 0,.int .u8 0,.int .u8 0,.int .u8 0,.int .u8 0,.int .u8 0,.int .u8 0,.int .u8 0]:=⟨_,rfl⟩
 have HEE:=zh hE;have HES:Hid (∀k,k < 16->(E k).setIfInBounds k (.int .u8 (F k (b k):Nat))=E (k+1)):=zh (by rw[hE];exact fun k hk=>gO F b k hk);have HEC:Hid (∀k,k < 16->∀j,j < 16->(E k)[j]? = some (.int .u8 (cy F b k j:Nat))):=zh (by rw[hE];exact fun k _ j hj=>aN _ hj);have HZS:Hid (ZB.size=16):=zh (by rw[hZB];rfl);rw[<-hBA]at HAT HSZ ⊢;have HBE:Hid (BA=E 0):=zh (by rw[hE,hBA];exact congrArg am (dw F b).symm);have HZB:=zh hZB;clear HC hb hE hBA hZB;go_enter Tryz.func189,Tryz.ntmps189;go_upto_region 1 with (fail)
 obtain⟨bb,hbb⟩:=ah w.heap.size
 refine ai (fun V=>ae V bb 258 BA/\ae V (bb+1) 258 ZB/\Below w.heap.size w V) ⟨by rw[hbb];exact(ae.new _ _ _).alloc _,by rw[hbb,HZB.out];exact al _ _ _ _ (by simp),(bR _).alloc (by simp) _⟩ ?_;rintro W1 ⟨b1,b2,b3⟩;have B1:=zh b1;have B2:=zh b2;have B3:=zh b3;have HBB:=zh hbb;rw[<-hbb];clear b1 b2 b3 hbb;go_wp2_with (refine wpList_load_row rfl _ _ rfl bb rfl 258 BA (0,0) _ B1.out Tryz.underlying258 rfl HSZ.out ?_);go_loopw [8] (fun v wr=>∃k:Nat,k<=16/\v=.int .i64 k/\ae wr bb 258 (E k)/\ae wr (bb+1) 258 ZB/\Below w.heap.size w wr) (fun v _=>16-(intOf v).toNat)
 case atStart=>exact⟨0,by omega,rfl,by rw[<-HBE.out];exact B1.out,B2.out,B3.out⟩
 case round=>
  clear B1 B2 B3;obtain⟨k,hk,rfl,hB,hZ,hb⟩:=hrel;have k0:(0:Int)<=(k:Int):=by omega
  have HB:=zh hB;have HZb:=zh hZ;have HBW:=zh hb;clear hB hZ hb;by_cases hlt:k < 16
  ·have k1:(k:Int) < 16:=by omega
   obtain⟨iu,hiu,hius⟩:=gR;have hix:=fp (P:=Tryz.prog) 258 5 16 Tryz.underlying258 iu hiu hius .u8 Tryz.underlying5 BA k hlt _ (HAT.out k hlt);have HCK:=zh (HCH.out wr HBW.out k hlt);have HES':=zh (HES.out k hlt);obtain⟨x,hx⟩:=ah (b k)
   obtain⟨y,hy⟩:=ah (F k x)
   rw[<-hx]at hix HCK HES';rw[<-hy]at HCK HES';clear hiu hx hy;go_wp2_with (refine(HCK.out).mono ?_;rintro e w4 ⟨rfl,hb4⟩;have H4:=zh (HB.out.below hb4 HB.out.lt);have c4:=(H4.out.cell k).trans (HEC.out k hlt k hlt);have f4:=H4.out.frozen k;have Z4:=zh (HZb.out.below hb4 HZb.out.lt);have B4:=zh (HBW.out.trans (hb4.mono HBW.out.size));clear hb4);go_roundw
   case rel=>
    refine⟨k+1,by omega,by go_num,?_,Z4.out.far (p:=⟨bb,k,none⟩) (by show ¬bb+1=bb;omega) _,B4.out.setCell (p:=⟨bb,k,none⟩) (by show w.heap.size<=bb;rw[HBB.out];exact Nat.le_refl _) _⟩;rw[<-HES'.out]
    exact H4.out.set_ k _
   case measure=>simp[intOf];omega
  ·obtain rfl:k=16:=by omega
   have HA:Hid (E 16=am fun i=>F i (b i)):=zh (by rw[HEE.out];exact HEA.out);have HO16:Hid ((E 16).all (·.oneCell')=true):=zh (by rw[HEE.out];exact HO.out);have HS16:Hid ((Tryz.prog.info? 258).map (·.size)=some (E 16).size):=zh (by rw[HEE.out];exact HSF.out);have HZ16:Hid (ZB.size=(E 16).size):=zh (by rw[HZS.out,HEE.out,aj]);obtain⟨X,hX⟩:=ah (E 16)
   rw[<-hX]at HB HA HO16 HS16 HZ16;have n1:¬(16:Int) < 16:=by omega
   clear hX hk;go_wp2_with (first
    | (refine wpList_load_row rfl _ _ rfl bb rfl 258 X (0,0) _ HB.out Tryz.underlying258 rfl HS16.out ?_)
    | (refine wpList_store_row rfl _ _ _ rfl (bb+1) X rfl rfl 258 ZB HZb.out HS16.out HZ16.out HO16.out ?_))
   refine bodyPost_ret (v:=.agg X) (results_cell_row (g:=bb+1) (t:=258) (fr:=(0,0)) Tryz.results189 _ _ X _ rfl (setRow_heap wr (bb+1) ZB X 258 (0,0) HZb.out) Tryz.underlying258 rfl HS16.out) rfl ⟨by rw[HA.out],?_⟩
   exact ak HBW.out (by rw[HBB.out];omega) _
theorem mW (b:Nat->Nat) (hb:bf b) (F:Nat->Nat->Nat) (c1:Value) (w:World)
  (HC:∀W,Below w.heap.size w W->∀i,i < 16->Calls Tryz.prog 191 #[.int .i64 (i:Nat),.int .u8 (b i:Nat),c1] W fun e W'=>e=.returned (.int .u8 (F i (b i):Nat))/\Below W.heap.size W W') :
  Calls Tryz.prog 189 #[.agg (am b),.func (.func 191) #[] #[c1]] w fun e w'=>e=.returned (.agg (am fun i=>F i (b i)))/\Below w.heap.size w w':=iS b hb F 191 c1 w (fun _ _=>by kernel_rfl) HC
theorem jO (b:Nat->Nat) (hb:bf b) (F:Nat->Nat->Nat) (c1:Value) (w:World)
  (HC:∀W,Below w.heap.size w W->∀i,i < 16->Calls Tryz.prog 192 #[.int .i64 (i:Nat),.int .u8 (b i:Nat),c1] W fun e W'=>e=.returned (.int .u8 (F i (b i):Nat))/\Below W.heap.size W W') :
  Calls Tryz.prog 189 #[.agg (am b),.func (.func 192) #[] #[c1]] w fun e w'=>e=.returned (.agg (am fun i=>F i (b i)))/\Below w.heap.size w w':=iS b hb F 192 c1 w (fun _ _=>by kernel_rfl) HC
theorem mo (b:Nat->Nat) (hb:bf b) (F:Nat->Nat->Nat) (c1 c2:Value) (w:World)
  (HC:∀W,Below w.heap.size w W->∀i,i < 16->Calls Tryz.prog 190 #[.int .i64 (i:Nat),.int .u8 (b i:Nat),c1,c2] W fun e W'=>e=.returned (.int .u8 (F i (b i):Nat))/\Below W.heap.size W W') :
  Calls Tryz.prog 189 #[.agg (am b),.func (.func 190) #[] #[c1,c2]] w fun e w'=>e=.returned (.agg (am fun i=>F i (b i)))/\Below w.heap.size w w':=iV b hb F 190 c1 c2 w (fun _ _=>by kernel_rfl) HC
theorem jS (b:Nat->Nat) (hb:bf b) (F:Nat->Nat->Nat) (c1 c2:Value) (w:World)
  (HC:∀W,Below w.heap.size w W->∀i,i < 16->Calls Tryz.prog 205 #[.int .i64 (i:Nat),.int .u8 (b i:Nat),c1,c2] W fun e W'=>e=.returned (.int .u8 (F i (b i):Nat))/\Below W.heap.size W W') :
  Calls Tryz.prog 189 #[.agg (am b),.func (.func 205) #[] #[c1,c2]] w fun e w'=>e=.returned (.agg (am fun i=>F i (b i)))/\Below w.heap.size w w':=iV b hb F 205 c1 c2 w (fun _ _=>by kernel_rfl) HC
end Go.Proofs.YtbfpdnnphdagjaaGreat
