import Derived.Test.YtiiojpnckbglcaaGreatMVFs
import Derived.Test.YtiiojpnckbglcaaGreatNAs
import Derived.StillTailTactics
set_option maxRecDepth 100000
set_option maxHeartbeats 3200000
set_option linter.unusedVariables false
set_option linter.unusedSimpArgs false
namespace Go.Proofs.YtiiojpnckbglcaaGreat
open Go.RowKit
attribute [local go_sem ↓] Go.wp_at_zero Go.wp_at_succ
theorem aq (W:World) (t:TypeId) (cs:Array Value) (N:Nat) (hN:W.heap.size=N):ae (W.alloc (.cells cs t)) N t cs:=by
 subst hN;exact ae.new W t cs
def cR (F:Nat->Nat->Nat) (b:Nat->Nat) (k:Nat):Nat->Nat:=fun j=>if j < k then F j (b j) else b j
theorem dO (F:Nat->Nat->Nat) (b:Nat->Nat):cR F b 0=b:=by
 funext j
 unfold cR;rw[if_neg (by omega)]
theorem dI {f g:Nat->Nat} (h:∀j,j < 16->f j=g j):ar f=ar g:=by
 apply Array.ext_getElem?;intro j;by_cases hj:j < 16
 ·rw[aR _ hj,aR _ hj,h j hj]
 ·rw[Array.getElem?_eq_none (by rw[ah];omega),Array.getElem?_eq_none (by rw[ah];omega)]
theorem iY (F:Nat->Nat->Nat) (b:Nat->Nat) (k:Nat) (hk:k < 16):(ar (cR F b k)).setIfInBounds k (.int .u8 (F k (b k):Nat))=ar (cR F b (k+1)):=by
 rw[jF _ _ _ hk];refine dI fun j hj=>?_;unfold eA cR;by_cases e:j=k
 ·subst e;rw[if_pos rfl,if_pos (by omega)]
 ·rw[if_neg e];by_cases h2:j < k
  ·rw[if_pos h2,if_pos (by omega)]
  ·rw[if_neg h2,if_neg (by omega)]
theorem iX (F:Nat->Nat->Nat) (b:Nat->Nat):ar (cR F b 16)=ar (fun i=>F i (b i)):=dI fun j hj=>by unfold cR;rw[if_pos hj]
theorem aD (b:Nat->Nat):(Tryz.prog.info? 271).map (·.size)=some (ar b).size:=by rw[ah];kernel_rfl
theorem jH (b:Nat->Nat) (hb:br b) (F:Nat->Nat->Nat) (fn:Nat) (c1:Value) (w:World)
  (hcf:∀(a:Array Value) (W:World),(callFunc fn a).run Tryz.prog W=.ok (.enter fn a) W) (HC:∀W,Below w.heap.size w W->∀i,i < 16->Calls Tryz.prog fn #[.int .i64 (i:Nat),.int .u8 (b i:Nat),c1] W fun e W'=>e=.returned (.int .u8 (F i (b i):Nat))/\Below W.heap.size W W') :
  Calls Tryz.prog 212 #[.agg (ar b),.func (.func fn) #[] #[c1]] w fun e w'=>e=.returned (.agg (ar fun i=>F i (b i)))/\Below w.heap.size w w':=by
 have HCH:=zh HC;have HEA:=zh (iX F b);have HAT:=zh (fun j hj=>aR b (j:=j) hj);have HSZ:=zh (aD b);have HSF:=zh (aD (cR F b 16));have HO:=zh (aI (cR F b 16));have HE0:=zh (dO F b);obtain⟨E,hE⟩:∃E:Nat->Array Value,E=fun k=>ar (cR F b k):=⟨_,rfl⟩
 obtain⟨BA,hBA⟩:=af (ar b)
 obtain⟨ZB,hZB⟩:∃ZB:Array Value,ZB=#[.int .u8 0,.int .u8 0,.int .u8 0,.int .u8 0,.int .u8 0,.int .u8 0,.int .u8 0,.int .u8 0,.int .u8 0,.int .u8 0,.int .u8 0,.int .u8 0,.int .u8 0,.int .u8 0,.int .u8 0,.int .u8 0]:=⟨_,rfl⟩
 have HEE:=zh hE;have HES:Hid (∀k,k < 16->(E k).setIfInBounds k (.int .u8 (F k (b k):Nat))=E (k+1)):=zh (by rw[hE];exact fun k hk=>iY F b k hk);have HEC:Hid (∀k,k < 16->∀j,j < 16->(E k)[j]? = some (.int .u8 (cR F b k j:Nat))):=zh (by rw[hE];exact fun k _ j hj=>aR _ hj);have HZS:Hid (ZB.size=16):=zh (by rw[hZB];rfl);rw[<-hBA]at HAT HSZ ⊢;have HBE:Hid (BA=E 0):=zh (by rw[hE,hBA];exact congrArg ar (dO F b).symm);have HZB:=zh hZB;clear HC hb hE hBA hZB;go_enter Tryz.func212,Tryz.ntmps212;go_upto_region 1 with (fail)
 obtain⟨bb,hbb⟩:=af w.heap.size
 refine ag (fun V=>ae V bb 271 BA/\ae V (bb+1) 271 ZB/\Below w.heap.size w V) ⟨by rw[hbb];exact(ae.new _ _ _).alloc _,by rw[hbb,HZB.out];exact aq _ _ _ _ (by simp),(bM _).alloc (by simp) _⟩ ?_;rintro W1 ⟨b1,b2,b3⟩;have B1:=zh b1;have B2:=zh b2;have B3:=zh b3;have HBB:=zh hbb;rw[<-hbb];clear b1 b2 b3 hbb;go_wp2_with (refine wpList_load_row rfl _ _ rfl bb rfl 271 BA (0,0) _ B1.out Tryz.underlying271 rfl HSZ.out ?_);go_loopw [8] (fun v wr=>∃k:Nat,k<=16/\v=.int .i64 k/\ae wr bb 271 (E k)/\ae wr (bb+1) 271 ZB/\Below w.heap.size w wr) (fun v _=>16-(intOf v).toNat)
 case atStart=>exact⟨0,by omega,rfl,by rw[<-HBE.out];exact B1.out,B2.out,B3.out⟩
 case round=>
  clear B1 B2 B3;obtain⟨k,hk,rfl,hB,hZ,hb⟩:=hrel;have k0:(0:Int)<=(k:Int):=by omega
  have HB:=zh hB;have HZb:=zh hZ;have HBW:=zh hb;clear hB hZ hb;by_cases hlt:k < 16
  ·have k1:(k:Int) < 16:=by omega
   obtain⟨iu,hiu,hius⟩:=iT;have hix:=gd (P:=Tryz.prog) 271 5 16 Tryz.underlying271 iu hiu hius .u8 Tryz.underlying5 BA k hlt _ (HAT.out k hlt);have HCK:=zh (HCH.out wr HBW.out k hlt);have HES':=zh (HES.out k hlt);obtain⟨x,hx⟩:=af (b k)
   obtain⟨y,hy⟩:=af (F k x)
   rw[<-hx]at hix HCK HES';rw[<-hy]at HCK HES';clear hiu hx hy;go_wp2_with (refine(HCK.out).mono ?_;rintro e w4 ⟨rfl,hb4⟩;have H4:=zh (HB.out.below hb4 HB.out.lt);have c4:=(H4.out.cell k).trans (HEC.out k hlt k hlt);have f4:=H4.out.frozen k;have Z4:=zh (HZb.out.below hb4 HZb.out.lt);have B4:=zh (HBW.out.trans (hb4.mono HBW.out.size));clear hb4);go_roundw
   case rel=>
    refine⟨k+1,by omega,by go_num,?_,Z4.out.far (p:=⟨bb,k,none⟩) (by show ¬bb+1=bb;omega) _,B4.out.setCell (p:=⟨bb,k,none⟩) (by show w.heap.size<=bb;rw[HBB.out];exact Nat.le_refl _) _⟩;rw[<-HES'.out]
    exact H4.out.set_ k _
   case measure=>simp[intOf];omega
  ·obtain rfl:k=16:=by omega
   have HA:Hid (E 16=ar fun i=>F i (b i)):=zh (by rw[HEE.out];exact HEA.out);have HO16:Hid ((E 16).all (·.oneCell')=true):=zh (by rw[HEE.out];exact HO.out);have HS16:Hid ((Tryz.prog.info? 271).map (·.size)=some (E 16).size):=zh (by rw[HEE.out];exact HSF.out);have HZ16:Hid (ZB.size=(E 16).size):=zh (by rw[HZS.out,HEE.out,ah]);obtain⟨X,hX⟩:=af (E 16)
   rw[<-hX]at HB HA HO16 HS16 HZ16;have n1:¬(16:Int) < 16:=by omega
   clear hX hk;go_wp2_with (first
    | (refine wpList_load_row rfl _ _ rfl bb rfl 271 X (0,0) _ HB.out Tryz.underlying271 rfl HS16.out ?_)
    | (refine wpList_store_row rfl _ _ _ rfl (bb+1) X rfl rfl 271 ZB HZb.out HS16.out HZ16.out HO16.out ?_))
   refine bodyPost_ret (v:=.agg X) (results_cell_row (g:=bb+1) (t:=271) (fr:=(0,0)) Tryz.results212 _ _ X _ rfl (setRow_heap wr (bb+1) ZB X 271 (0,0) HZb.out) Tryz.underlying271 rfl HS16.out) rfl ⟨by rw[HA.out],?_⟩
   exact aj HBW.out (by rw[HBB.out];omega) _
theorem kz (b:Nat->Nat) (hb:br b) (F:Nat->Nat->Nat) (fn:Nat) (c1 c2:Value) (w:World)
  (hcf:∀(a:Array Value) (W:World),(callFunc fn a).run Tryz.prog W=.ok (.enter fn a) W) (HC:∀W,Below w.heap.size w W->∀i,i < 16->Calls Tryz.prog fn #[.int .i64 (i:Nat),.int .u8 (b i:Nat),c1,c2] W fun e W'=>e=.returned (.int .u8 (F i (b i):Nat))/\Below W.heap.size W W') :
  Calls Tryz.prog 212 #[.agg (ar b),.func (.func fn) #[] #[c1,c2]] w fun e w'=>e=.returned (.agg (ar fun i=>F i (b i)))/\Below w.heap.size w w':=by
 have HCH:=zh HC;have HEA:=zh (iX F b);have HAT:=zh (fun j hj=>aR b (j:=j) hj);have HSZ:=zh (aD b);have HSF:=zh (aD (cR F b 16));have HO:=zh (aI (cR F b 16));have HE0:=zh (dO F b);obtain⟨E,hE⟩:∃E:Nat->Array Value,E=fun k=>ar (cR F b k):=⟨_,rfl⟩
 obtain⟨BA,hBA⟩:=af (ar b)
 obtain⟨ZB,hZB⟩:∃ZB:Array Value,ZB=#[.int .u8 0,.int .u8 0,.int .u8 0,.int .u8 0,.int .u8 0,.int .u8 0,.int .u8 0,.int .u8 0,.int .u8 0,.int .u8 0,.int .u8 0,.int .u8 0,.int .u8 0,.int .u8 0,.int .u8 0,.int .u8 0]:=⟨_,rfl⟩
 have HEE:=zh hE;have HES:Hid (∀k,k < 16->(E k).setIfInBounds k (.int .u8 (F k (b k):Nat))=E (k+1)):=zh (by rw[hE];exact fun k hk=>iY F b k hk);have HEC:Hid (∀k,k < 16->∀j,j < 16->(E k)[j]? = some (.int .u8 (cR F b k j:Nat))):=zh (by rw[hE];exact fun k _ j hj=>aR _ hj);have HZS:Hid (ZB.size=16):=zh (by rw[hZB];rfl);rw[<-hBA]at HAT HSZ ⊢;have HBE:Hid (BA=E 0):=zh (by rw[hE,hBA];exact congrArg ar (dO F b).symm);have HZB:=zh hZB;clear HC hb hE hBA hZB;go_enter Tryz.func212,Tryz.ntmps212;go_upto_region 1 with (fail)
 obtain⟨bb,hbb⟩:=af w.heap.size
 refine ag (fun V=>ae V bb 271 BA/\ae V (bb+1) 271 ZB/\Below w.heap.size w V) ⟨by rw[hbb];exact(ae.new _ _ _).alloc _,by rw[hbb,HZB.out];exact aq _ _ _ _ (by simp),(bM _).alloc (by simp) _⟩ ?_;rintro W1 ⟨b1,b2,b3⟩;have B1:=zh b1;have B2:=zh b2;have B3:=zh b3;have HBB:=zh hbb;rw[<-hbb];clear b1 b2 b3 hbb;go_wp2_with (refine wpList_load_row rfl _ _ rfl bb rfl 271 BA (0,0) _ B1.out Tryz.underlying271 rfl HSZ.out ?_);go_loopw [8] (fun v wr=>∃k:Nat,k<=16/\v=.int .i64 k/\ae wr bb 271 (E k)/\ae wr (bb+1) 271 ZB/\Below w.heap.size w wr) (fun v _=>16-(intOf v).toNat)
 case atStart=>exact⟨0,by omega,rfl,by rw[<-HBE.out];exact B1.out,B2.out,B3.out⟩
 case round=>
  clear B1 B2 B3;obtain⟨k,hk,rfl,hB,hZ,hb⟩:=hrel;have k0:(0:Int)<=(k:Int):=by omega
  have HB:=zh hB;have HZb:=zh hZ;have HBW:=zh hb;clear hB hZ hb;by_cases hlt:k < 16
  ·have k1:(k:Int) < 16:=by omega
   obtain⟨iu,hiu,hius⟩:=iT;have hix:=gd (P:=Tryz.prog) 271 5 16 Tryz.underlying271 iu hiu hius .u8 Tryz.underlying5 BA k hlt _ (HAT.out k hlt);have HCK:=zh (HCH.out wr HBW.out k hlt);have HES':=zh (HES.out k hlt);obtain⟨x,hx⟩:=af (b k)
   obtain⟨y,hy⟩:=af (F k x)
   rw[<-hx]at hix HCK HES';rw[<-hy]at HCK HES';clear hiu hx hy;go_wp2_with (refine(HCK.out).mono ?_;rintro e w4 ⟨rfl,hb4⟩;have H4:=zh (HB.out.below hb4 HB.out.lt);have c4:=(H4.out.cell k).trans (HEC.out k hlt k hlt);have f4:=H4.out.frozen k;have Z4:=zh (HZb.out.below hb4 HZb.out.lt);have B4:=zh (HBW.out.trans (hb4.mono HBW.out.size));clear hb4);go_roundw
   case rel=>
    refine⟨k+1,by omega,by go_num,?_,Z4.out.far (p:=⟨bb,k,none⟩) (by show ¬bb+1=bb;omega) _,B4.out.setCell (p:=⟨bb,k,none⟩) (by show w.heap.size<=bb;rw[HBB.out];exact Nat.le_refl _) _⟩;rw[<-HES'.out]
    exact H4.out.set_ k _
   case measure=>simp[intOf];omega
  ·obtain rfl:k=16:=by omega
   have HA:Hid (E 16=ar fun i=>F i (b i)):=zh (by rw[HEE.out];exact HEA.out);have HO16:Hid ((E 16).all (·.oneCell')=true):=zh (by rw[HEE.out];exact HO.out);have HS16:Hid ((Tryz.prog.info? 271).map (·.size)=some (E 16).size):=zh (by rw[HEE.out];exact HSF.out);have HZ16:Hid (ZB.size=(E 16).size):=zh (by rw[HZS.out,HEE.out,ah]);obtain⟨X,hX⟩:=af (E 16)
   rw[<-hX]at HB HA HO16 HS16 HZ16;have n1:¬(16:Int) < 16:=by omega
   clear hX hk;go_wp2_with (first
    | (refine wpList_load_row rfl _ _ rfl bb rfl 271 X (0,0) _ HB.out Tryz.underlying271 rfl HS16.out ?_)
    | (refine wpList_store_row rfl _ _ _ rfl (bb+1) X rfl rfl 271 ZB HZb.out HS16.out HZ16.out HO16.out ?_))
   refine bodyPost_ret (v:=.agg X) (results_cell_row (g:=bb+1) (t:=271) (fr:=(0,0)) Tryz.results212 _ _ X _ rfl (setRow_heap wr (bb+1) ZB X 271 (0,0) HZb.out) Tryz.underlying271 rfl HS16.out) rfl ⟨by rw[HA.out],?_⟩
   exact aj HBW.out (by rw[HBB.out];omega) _
theorem nC (b:Nat->Nat) (hb:br b) (F:Nat->Nat->Nat) (c1:Value) (w:World)
  (HC:∀W,Below w.heap.size w W->∀i,i < 16->Calls Tryz.prog 214 #[.int .i64 (i:Nat),.int .u8 (b i:Nat),c1] W fun e W'=>e=.returned (.int .u8 (F i (b i):Nat))/\Below W.heap.size W W') :
  Calls Tryz.prog 212 #[.agg (ar b),.func (.func 214) #[] #[c1]] w fun e w'=>e=.returned (.agg (ar fun i=>F i (b i)))/\Below w.heap.size w w':=jH b hb F 214 c1 w (fun _ _=>by kernel_rfl) HC
theorem kW (b:Nat->Nat) (hb:br b) (F:Nat->Nat->Nat) (c1:Value) (w:World)
  (HC:∀W,Below w.heap.size w W->∀i,i < 16->Calls Tryz.prog 215 #[.int .i64 (i:Nat),.int .u8 (b i:Nat),c1] W fun e W'=>e=.returned (.int .u8 (F i (b i):Nat))/\Below W.heap.size W W') :
  Calls Tryz.prog 212 #[.agg (ar b),.func (.func 215) #[] #[c1]] w fun e w'=>e=.returned (.agg (ar fun i=>F i (b i)))/\Below w.heap.size w w':=jH b hb F 215 c1 w (fun _ _=>by kernel_rfl) HC
theorem n4 (b:Nat->Nat) (hb:br b) (F:Nat->Nat->Nat) (c1 c2:Value) (w:World)
  (HC:∀W,Below w.heap.size w W->∀i,i < 16->Calls Tryz.prog 213 #[.int .i64 (i:Nat),.int .u8 (b i:Nat),c1,c2] W fun e W'=>e=.returned (.int .u8 (F i (b i):Nat))/\Below W.heap.size W W') :
  Calls Tryz.prog 212 #[.agg (ar b),.func (.func 213) #[] #[c1,c2]] w fun e w'=>e=.returned (.agg (ar fun i=>F i (b i)))/\Below w.heap.size w w':=kz b hb F 213 c1 c2 w (fun _ _=>by kernel_rfl) HC
theorem kR (b:Nat->Nat) (hb:br b) (F:Nat->Nat->Nat) (c1 c2:Value) (w:World)
  (HC:∀W,Below w.heap.size w W->∀i,i < 16->Calls Tryz.prog 225 #[.int .i64 (i:Nat),.int .u8 (b i:Nat),c1,c2] W fun e W'=>e=.returned (.int .u8 (F i (b i):Nat))/\Below W.heap.size W W') :
  Calls Tryz.prog 212 #[.agg (ar b),.func (.func 225) #[] #[c1,c2]] w fun e w'=>e=.returned (.agg (ar fun i=>F i (b i)))/\Below w.heap.size w w':=kz b hb F 225 c1 c2 w (fun _ _=>by kernel_rfl) HC
def jT (key:Nat->Nat):Array Value:=aV fX wP++a9 (aX fX key) 176
theorem pq (key:Nat->Nat) {x:Nat} (hx:x < 256):(jT key)[x]? = some (.int .u8 (fX x:Nat)):=by
 unfold jT;rw[Array.getElem?_append_left (by rw[aN];omega),cN _ _ (by omega),if_pos hx]
theorem oT (key:Nat->Nat) {n i:Nat} (hn:n < 11) (hi:i < 16):(jT key)[512+n*16+i]? = some (.int .u8 (aX fX key n i:Nat)):=by
 unfold jT;rw[Array.getElem?_append_right (by rw[aN];omega),aN,show 512+n*16+i-512=n*16+i by omega,bz _ _ (by omega),if_pos (by omega),show(n*16+i) / 16=n by omega,show(n*16+i) % 16=i by omega]
def cT (w:World) (g:Nat) (key:Nat->Nat):Prop:=ae w g 275 (jT key)
theorem cT.below {w w':World} {g:Nat} {key:Nat->Nat} (h:cT w g key) (hb:Below w.heap.size w w'):cT w' g key:=ae.below h hb (ae.lt h)
theorem cT.box {w:World} {g:Nat} {key:Nat->Nat} (h:cT w g key) {x:Nat} (hx:x < 256):w.cell? ⟨g,x,none⟩=some (.int .u8 (fX x:Nat)):=(ae.cell h x).trans (pq key hx)
theorem cT.key {w:World} {g:Nat} {key:Nat->Nat} (h:cT w g key) {n i:Nat} (hn:n < 11) (hi:i < 16):w.cell? ⟨g,512+n*16+i,none⟩=some (.int .u8 (aX fX key n i:Nat)):=(ae.cell h _).trans (oT key hn hi)
theorem xB (b:Nat->Nat) (hb:br b) (cg:Nat) (key:Nat->Nat) (n:Int) (w:World) (h:cT w cg key) :
  Calls Tryz.prog 187 #[.pointer (some ⟨cg,0,none⟩),.agg (ar b),.int .i64 n] w fun e w'=>e=.returned (.agg (ar (my b)))/\Below w.heap.size w w':=by
 have hmf:∀(fn:Fn) (first cap:Array Value) (w:World),(Instr.makeFunc fn first cap).run Tryz.prog w=.ok (.func fn first cap) w:=fun _ _ _ _=>rfl;have HSB:=zh (aD b);obtain⟨ZB,hZB⟩:∃ZB:Array Value,ZB=#[.int .u8 0,.int .u8 0,.int .u8 0,.int .u8 0,.int .u8 0,.int .u8 0,.int .u8 0,.int .u8 0,.int .u8 0,.int .u8 0,.int .u8 0,.int .u8 0,.int .u8 0,.int .u8 0,.int .u8 0,.int .u8 0]:=⟨_,rfl⟩
 have HZB:=zh hZB;obtain⟨BA,hBA⟩:=af (ar b)
 have HBA:=zh hBA;obtain⟨RA,hRA⟩:=af (ar (my b))
 have HRS:Hid ((Tryz.prog.info? 271).map (·.size)=some RA.size):=zh (by rw[hRA];exact aD _);have HZR:Hid (ZB.size=RA.size):=zh (by rw[hZB,hRA,ah];rfl);have HRO:Hid (RA.all (·.oneCell')=true):=zh (by rw[hRA];exact aI _);have HEA:=zh (fun(V:World) (c1:Value)=>nC b hb (fun _ x=>fX x) c1 V);have HBB:=zh hb;have HCI:=zh h;rw[show(fun i=>fX (b i))=my b from rfl,<-hRA]at HEA;rw[<-hBA]at HEA;rw[<-hBA]at HSB;rw[<-hRA];rw[<-hBA];clear hZB hBA hRA hb h;go_enter Tryz.func187,Tryz.ntmps187;go_upto_region 1 with (fail)
 obtain⟨p0,hp0⟩:=af w.heap.size
 refine ag (fun V=>ae V (p0) 226 #[.pointer (some ⟨cg,0,none⟩)]/\ae V (p0+1) 271 BA/\ae V (p0+2) 271 ZB/\Below w.heap.size w V) ⟨by rw[hp0];exact((aq _ _ _ _ (by simp)).alloc _).alloc _,by rw[hp0];exact(aq _ _ _ _ (by simp)).alloc _,by rw[hp0,HZB.out];exact aq _ _ _ _ (by simp),(((Below.refl _ _).alloc (by first | exact Nat.le_refl _ | (simp only[World.size_alloc];omega)) _).alloc (by first | exact Nat.le_refl _ | (simp only[World.size_alloc];omega)) _).alloc (by first | exact Nat.le_refl _ | (simp only[World.size_alloc];omega)) _⟩ ?_;rintro W ⟨b0,b1,b2,bb⟩;have HP0:=zh hp0;have B0:=zh b0;have B1:=zh b1;have B2:=zh b2;have BB:=zh bb;have HCW:=zh (HCI.out.below bb);have HE:=zh (HEA.out W (.pointer (some ⟨p0,0,none⟩)) (fun V hV i hi=>(vt i (b i) (fX (b i)) (HBB.out i hi) p0 cg V ((b0.below hV b0.lt).cell 0) ((HCW.out.below hV).box (HBB.out i hi))).mono (fun e W' ⟨h1,h2⟩=>⟨h1,by rw[<-h2];exact Below.refl _ _⟩)));rw[<-hp0];clear b0 b1 b2 bb hp0;go_wp2_with (first
  | (refine wpList_load_row rfl _ _ rfl (p0+1) rfl 271 BA (0,0) _ B1.out Tryz.underlying271 rfl HSB.out ?_)
  | (go_at_call 212;refine(HE.out).mono ?_;rintro e w4 ⟨rfl,hb4⟩;have Z4:=zh (B2.out.below hb4 B2.out.lt);have B4:=zh (BB.out.trans (hb4.mono BB.out.size));clear hb4)
  | (refine wpList_store_row rfl _ _ _ rfl (p0+2) RA rfl rfl 271 ZB Z4.out HRS.out HZR.out HRO.out ?_))
 refine bodyPost_ret (v:=.agg RA) (results_cell_row (g:=p0+2) (t:=271) (fr:=(0,0)) Tryz.results187 _ _ RA _ rfl (setRow_heap _ (p0+2) ZB RA 271 (0,0) Z4.out) Tryz.underlying271 rfl HRS.out) rfl ⟨rfl,?_⟩
 exact aj B4.out (by rw[HP0.out];omega) _
theorem tS (b:Nat->Nat) (hb:br b) (p:Value) (n:Int) (w:World) :
  Calls Tryz.prog 188 #[p,.agg (ar b),.int .i64 n] w fun e w'=>e=.returned (.agg (ar (fV b)))/\Below w.heap.size w w':=by
 have hmf:∀(fn:Fn) (first cap:Array Value) (w:World),(Instr.makeFunc fn first cap).run Tryz.prog w=.ok (.func fn first cap) w:=fun _ _ _ _=>rfl;have HSB:=zh (aD b);obtain⟨ZB,hZB⟩:∃ZB:Array Value,ZB=#[.int .u8 0,.int .u8 0,.int .u8 0,.int .u8 0,.int .u8 0,.int .u8 0,.int .u8 0,.int .u8 0,.int .u8 0,.int .u8 0,.int .u8 0,.int .u8 0,.int .u8 0,.int .u8 0,.int .u8 0,.int .u8 0]:=⟨_,rfl⟩
 have HZB:=zh hZB;obtain⟨BA,hBA⟩:=af (ar b)
 have HBA:=zh hBA;obtain⟨RA,hRA⟩:=af (ar (fV b))
 have HRS:Hid ((Tryz.prog.info? 271).map (·.size)=some RA.size):=zh (by rw[hRA];exact aD _);have HZR:Hid (ZB.size=RA.size):=zh (by rw[hZB,hRA,ah];rfl);have HRO:Hid (RA.all (·.oneCell')=true):=zh (by rw[hRA];exact aI _);have HEA:=zh (fun(V:World) (c1:Value)=>kW b hb (fun i _=>b ((i+4*(i % 4)) % 16)) c1 V);have HBB:=zh hb;have HAT:=zh (fun j hj=>aR b (j:=j) hj);rw[show(fun i=>b ((i+4*(i % 4)) % 16))=fV b from rfl,<-hRA]at HEA;rw[<-hBA]at HEA HAT;rw[<-hBA]at HSB;rw[<-hRA];rw[<-hBA];clear hZB hBA hRA hb;go_enter Tryz.func188,Tryz.ntmps188;go_upto_region 1 with (fail)
 obtain⟨p0,hp0⟩:=af w.heap.size
 refine ag (fun V=>ae V (p0) 271 BA/\ae V (p0+1) 271 ZB/\Below w.heap.size w V) ⟨by rw[hp0];exact(aq _ _ _ _ (by simp)).alloc _,by rw[hp0,HZB.out];exact aq _ _ _ _ (by simp),((Below.refl _ _).alloc (by first | exact Nat.le_refl _ | (simp only[World.size_alloc];omega)) _).alloc (by first | exact Nat.le_refl _ | (simp only[World.size_alloc];omega)) _⟩ ?_;rintro W ⟨b0,b1,bb⟩;have HP0:=zh hp0;have B0:=zh b0;have B1:=zh b1;have BB:=zh bb;have HE:=zh (HEA.out W (.pointer (some ⟨p0,0,none⟩)) (fun V hV i hi=>(rF i (b i:Nat) hi _ p0 V (((b0.below hV b0.lt).cell _).trans (HAT.out _ (Nat.mod_lt _ (by decide))))).mono (fun e W' ⟨h1,h2⟩=>⟨h1,by rw[<-h2];exact Below.refl _ _⟩)));rw[<-hp0];clear b0 b1 bb hp0;go_wp2_with (first
  | (refine wpList_load_row rfl _ _ rfl (p0) rfl 271 BA (0,0) _ B0.out Tryz.underlying271 rfl HSB.out ?_)
  | (go_at_call 212;refine(HE.out).mono ?_;rintro e w4 ⟨rfl,hb4⟩;have Z4:=zh (B1.out.below hb4 B1.out.lt);have B4:=zh (BB.out.trans (hb4.mono BB.out.size));clear hb4)
  | (refine wpList_store_row rfl _ _ _ rfl (p0+1) RA rfl rfl 271 ZB Z4.out HRS.out HZR.out HRO.out ?_))
 refine bodyPost_ret (v:=.agg RA) (results_cell_row (g:=p0+1) (t:=271) (fr:=(0,0)) Tryz.results188 _ _ RA _ rfl (setRow_heap _ (p0+1) ZB RA 271 (0,0) Z4.out) Tryz.underlying271 rfl HRS.out) rfl ⟨rfl,?_⟩
 exact aj B4.out (by rw[HP0.out];omega) _
theorem tc (b:Nat->Nat) (hb:br b) (cg:Nat) (key:Nat->Nat) (hk:br key) (n:Nat) (hn:n < 11) (w:World) (h:cT w cg key) :
  Calls Tryz.prog 186 #[.pointer (some ⟨cg,0,none⟩),.agg (ar b),.int .i64 n] w fun e w'=>e=.returned (.agg (ar (nW (aX fX key) n b)))/\Below w.heap.size w w':=by
 have hmf:∀(fn:Fn) (first cap:Array Value) (w:World),(Instr.makeFunc fn first cap).run Tryz.prog w=.ok (.func fn first cap) w:=fun _ _ _ _=>rfl;have HSB:=zh (aD b);obtain⟨ZB,hZB⟩:∃ZB:Array Value,ZB=#[.int .u8 0,.int .u8 0,.int .u8 0,.int .u8 0,.int .u8 0,.int .u8 0,.int .u8 0,.int .u8 0,.int .u8 0,.int .u8 0,.int .u8 0,.int .u8 0,.int .u8 0,.int .u8 0,.int .u8 0,.int .u8 0]:=⟨_,rfl⟩
 have HZB:=zh hZB;obtain⟨BA,hBA⟩:=af (ar b)
 have HBA:=zh hBA;obtain⟨RA,hRA⟩:=af (ar (nW (aX fX key) n b))
 have HRS:Hid ((Tryz.prog.info? 271).map (·.size)=some RA.size):=zh (by rw[hRA];exact aD _);have HZR:Hid (ZB.size=RA.size):=zh (by rw[hZB,hRA,ah];rfl);have HRO:Hid (RA.all (·.oneCell')=true):=zh (by rw[hRA];exact aI _);have HEA:=zh (fun(V:World) (c1 c2:Value)=>n4 b hb (fun i x=>x ^^^ aX fX key n i) c1 c2 V);have HBB:=zh hb;have HCI:=zh h;have HKL:=zh (fun i hi=>eK (fi 255) hk n i hi);rw[show(fun i=>b i ^^^ aX fX key n i)=nW (aX fX key) n b from rfl,<-hRA]at HEA;rw[<-hBA]at HEA;rw[<-hBA]at HSB;rw[<-hRA];rw[<-hBA];clear hZB hBA hRA hb h;go_enter Tryz.func186,Tryz.ntmps186;go_upto_region 1 with (fail)
 obtain⟨p0,hp0⟩:=af w.heap.size
 refine ag (fun V=>ae V (p0) 226 #[.pointer (some ⟨cg,0,none⟩)]/\ae V (p0+1) 271 BA/\ae V (p0+2) 3 #[.int .i64 n]/\ae V (p0+3) 271 ZB/\Below w.heap.size w V) ⟨by rw[hp0];exact(((aq _ _ _ _ (by simp)).alloc _).alloc _).alloc _,by rw[hp0];exact((aq _ _ _ _ (by simp)).alloc _).alloc _,by rw[hp0];exact(aq _ _ _ _ (by simp)).alloc _,by rw[hp0,HZB.out];exact aq _ _ _ _ (by simp),((((Below.refl _ _).alloc (by first | exact Nat.le_refl _ | (simp only[World.size_alloc];omega)) _).alloc (by first | exact Nat.le_refl _ | (simp only[World.size_alloc];omega)) _).alloc (by first | exact Nat.le_refl _ | (simp only[World.size_alloc];omega)) _).alloc (by first | exact Nat.le_refl _ | (simp only[World.size_alloc];omega)) _⟩ ?_;rintro W ⟨b0,b1,b2,b3,bb⟩;have HP0:=zh hp0;have B0:=zh b0;have B1:=zh b1;have B2:=zh b2;have B3:=zh b3;have BB:=zh bb;have HCW:=zh (HCI.out.below bb);have HE:=zh (HEA.out W (.pointer (some ⟨p0,0,none⟩)) (.pointer (some ⟨p0+2,0,none⟩)) (fun V hV i hi=>wJ i n (b i) (aX fX key n i) hi hn (HBB.out i hi) (HKL.out i hi) p0 (p0+2) cg V ((b0.below hV b0.lt).cell 0) ((b2.below hV b2.lt).cell 0) ((HCW.out.below hV).key hn hi)));rw[<-hp0];clear b0 b1 b2 b3 bb hp0;go_wp2_with (first
  | (refine wpList_load_row rfl _ _ rfl (p0+1) rfl 271 BA (0,0) _ B1.out Tryz.underlying271 rfl HSB.out ?_)
  | (go_at_call 212;refine(HE.out).mono ?_;rintro e w4 ⟨rfl,hb4⟩;have Z4:=zh (B3.out.below hb4 B3.out.lt);have B4:=zh (BB.out.trans (hb4.mono BB.out.size));clear hb4)
  | (refine wpList_store_row rfl _ _ _ rfl (p0+3) RA rfl rfl 271 ZB Z4.out HRS.out HZR.out HRO.out ?_))
 refine bodyPost_ret (v:=.agg RA) (results_cell_row (g:=p0+3) (t:=271) (fr:=(0,0)) Tryz.results186 _ _ RA _ rfl (setRow_heap _ (p0+3) ZB RA 271 (0,0) Z4.out) Tryz.underlying271 rfl HRS.out) rfl ⟨rfl,?_⟩
 exact aj B4.out (by rw[HP0.out];omega) _
theorem uu (b:Nat->Nat) (hb:br b) (n:Nat) (w:World) :
  Calls Tryz.prog 216 #[.agg (ar b),.int .i64 n,.agg #[.int .u8 2,.int .u8 3,.int .u8 1,.int .u8 1]] w fun e w'=>e=.returned (.agg (ar (kP n b)))/\Below w.heap.size w w':=by
 have hmf:∀(fn:Fn) (first cap:Array Value) (w:World),(Instr.makeFunc fn first cap).run Tryz.prog w=.ok (.func fn first cap) w:=fun _ _ _ _=>rfl;have HSB:=zh (aD b);obtain⟨ZB,hZB⟩:∃ZB:Array Value,ZB=#[.int .u8 0,.int .u8 0,.int .u8 0,.int .u8 0,.int .u8 0,.int .u8 0,.int .u8 0,.int .u8 0,.int .u8 0,.int .u8 0,.int .u8 0,.int .u8 0,.int .u8 0,.int .u8 0,.int .u8 0,.int .u8 0]:=⟨_,rfl⟩
 have HZB:=zh hZB;obtain⟨BA,hBA⟩:=af (ar b)
 have HBA:=zh hBA;obtain⟨RA,hRA⟩:=af (ar (kP n b))
 have HRS:Hid ((Tryz.prog.info? 271).map (·.size)=some RA.size):=zh (by rw[hRA];exact aD _);have HZR:Hid (ZB.size=RA.size):=zh (by rw[hZB,hRA,ah];rfl);have HRO:Hid (RA.all (·.oneCell')=true):=zh (by rw[hRA];exact aI _);have HEA:=zh (fun(V:World) (c1 c2:Value)=>kR b hb (fun i _=>nl b i) c1 c2 V);have HBB:=zh hb;have HRA:=zh hRA;rw[<-hBA]at HEA;rw[<-hBA]at HSB;rw[<-hRA];rw[<-hBA];clear hZB hBA hRA hb;go_enter Tryz.func216,Tryz.ntmps216;go_upto_region 1 with (fail)
 obtain⟨p0,hp0⟩:=af w.heap.size
 refine ag (fun V=>ae V (p0) 271 BA/\ae V (p0+1) 304 #[.int .u8 2,.int .u8 3,.int .u8 1,.int .u8 1]/\ae V (p0+2) 271 ZB/\Below w.heap.size w V) ⟨by rw[hp0];exact((aq _ _ _ _ (by simp)).alloc _).alloc _,by rw[hp0];exact(aq _ _ _ _ (by simp)).alloc _,by rw[hp0,HZB.out];exact aq _ _ _ _ (by simp),(((Below.refl _ _).alloc (by first | exact Nat.le_refl _ | (simp only[World.size_alloc];omega)) _).alloc (by first | exact Nat.le_refl _ | (simp only[World.size_alloc];omega)) _).alloc (by first | exact Nat.le_refl _ | (simp only[World.size_alloc];omega)) _⟩ ?_;rintro W ⟨b0,b1,b2,bb⟩;have HP0:=zh hp0;have B0:=zh b0;have B1:=zh b1;have B2:=zh b2;have BB:=zh bb;rw[<-hp0];clear b0 b1 b2 bb hp0;by_cases h10:n=10
 ·subst h10;have HEQ:Hid (RA=BA):=zh (by rw[HRA.out,HBA.out];rfl);go_wp2_with (first
   | (refine wpList_load_row rfl _ _ rfl p0 rfl 271 BA (0,0) _ B0.out Tryz.underlying271 rfl HSB.out ?_)
   | (rw[<-HEQ.out];refine wpList_store_row rfl _ _ _ rfl (p0+2) RA rfl rfl 271 ZB B2.out HRS.out HZR.out HRO.out ?_))
  refine bodyPost_ret (v:=.agg RA) (results_cell_row (g:=p0+2) (t:=271) (fr:=(0,0)) Tryz.results216 _ _ RA _ rfl (setRow_heap _ (p0+2) ZB RA 271 (0,0) B2.out) Tryz.underlying271 rfl HRS.out) rfl ⟨rfl,?_⟩
  exact aj BB.out (by rw[HP0.out];omega) _
 ·have hne:((n:Int) == 10)=false:=by rw[beq_eq_false_iff_ne];omega
  have HR2:Hid (RA=ar (fun i=>nl b i)):=zh (by rw[HRA.out];unfold kP;rw[if_neg h10]);have HE:=zh (HEA.out W (.pointer (some ⟨p0+1,0,none⟩)) (.pointer (some ⟨p0,0,none⟩)) (fun V hV i hi=>(vo i (b i:Nat) hi b HBB.out (p0+1) p0 V (B1.out.below hV B1.out.lt) (HBA.out ▸ B0.out.below hV B0.out.lt)).mono (fun e W' ⟨h1,h2⟩=>⟨h1,by rw[<-h2];exact Below.refl _ _⟩)));rw[<-HR2.out]at HE;go_wp2_with (first
   | (refine wpList_load_row rfl _ _ rfl (p0) rfl 271 BA (0,0) _ B0.out Tryz.underlying271 rfl HSB.out ?_)
   | (go_at_call 212;refine(HE.out).mono ?_;rintro e w4 ⟨rfl,hb4⟩;have Z4:=zh (B2.out.below hb4 B2.out.lt);have B4:=zh (BB.out.trans (hb4.mono BB.out.size));clear hb4)
   | (refine wpList_store_row rfl _ _ _ rfl (p0+2) RA rfl rfl 271 ZB Z4.out HRS.out HZR.out HRO.out ?_))
  refine bodyPost_ret (v:=.agg RA) (results_cell_row (g:=p0+2) (t:=271) (fr:=(0,0)) Tryz.results216 _ _ RA _ rfl (setRow_heap _ (p0+2) ZB RA 271 (0,0) Z4.out) Tryz.underlying271 rfl HRS.out) rfl ⟨rfl,?_⟩
  exact aj B4.out (by rw[HP0.out];omega) _
theorem wU (b:Nat->Nat) (hb:br b) (p:Value) (n:Nat) (w:World) :
  Calls Tryz.prog 189 #[p,.agg (ar b),.int .i64 n] w fun e w'=>e=.returned (.agg (ar (kP n b)))/\Below w.heap.size w w':=by
 have hmf:∀(fn:Fn) (first cap:Array Value) (w:World),(Instr.makeFunc fn first cap).run Tryz.prog w=.ok (.func fn first cap) w:=fun _ _ _ _=>rfl;have HSB:=zh (aD b);obtain⟨ZB,hZB⟩:∃ZB:Array Value,ZB=#[.int .u8 0,.int .u8 0,.int .u8 0,.int .u8 0,.int .u8 0,.int .u8 0,.int .u8 0,.int .u8 0,.int .u8 0,.int .u8 0,.int .u8 0,.int .u8 0,.int .u8 0,.int .u8 0,.int .u8 0,.int .u8 0]:=⟨_,rfl⟩
 have HZB:=zh hZB;obtain⟨BA,hBA⟩:=af (ar b)
 have HBA:=zh hBA;obtain⟨RA,hRA⟩:=af (ar (kP n b))
 have HRS:Hid ((Tryz.prog.info? 271).map (·.size)=some RA.size):=zh (by rw[hRA];exact aD _);have HZR:Hid (ZB.size=RA.size):=zh (by rw[hZB,hRA,ah];rfl);have HRO:Hid (RA.all (·.oneCell')=true):=zh (by rw[hRA];exact aI _);have HEA:=zh (fun(V:World)=>uu b hb n V);rw[<-hRA]at HEA;rw[<-hBA]at HEA;rw[<-hBA]at HSB;rw[<-hRA];rw[<-hBA];clear hZB hBA hRA hb;go_enter Tryz.func189,Tryz.ntmps189;go_upto_region 1 with (fail)
 obtain⟨p0,hp0⟩:=af w.heap.size
 refine ag (fun V=>ae V (p0) 271 BA/\ae V (p0+1) 271 ZB/\Below w.heap.size w V) ⟨by rw[hp0];exact(aq _ _ _ _ (by simp)).alloc _,by rw[hp0,HZB.out];exact aq _ _ _ _ (by simp),((Below.refl _ _).alloc (by first | exact Nat.le_refl _ | (simp only[World.size_alloc];omega)) _).alloc (by first | exact Nat.le_refl _ | (simp only[World.size_alloc];omega)) _⟩ ?_;rintro W ⟨b0,b1,bb⟩;have HP0:=zh hp0;have B0:=zh b0;have B1:=zh b1;have BB:=zh bb;have HE:=zh (HEA.out W);rw[<-hp0];clear b0 b1 bb hp0;go_wp2_with (first
  | (refine wpList_load_row rfl _ _ rfl (p0) rfl 271 BA (0,0) _ B0.out Tryz.underlying271 rfl HSB.out ?_)
  | (go_at_call 216;refine(HE.out).mono ?_;rintro e w4 ⟨rfl,hb4⟩;have Z4:=zh (B1.out.below hb4 B1.out.lt);have B4:=zh (BB.out.trans (hb4.mono BB.out.size));clear hb4)
  | (refine wpList_store_row rfl _ _ _ rfl (p0+1) RA rfl rfl 271 ZB Z4.out HRS.out HZR.out HRO.out ?_))
 refine bodyPost_ret (v:=.agg RA) (results_cell_row (g:=p0+1) (t:=271) (fr:=(0,0)) Tryz.results189 _ _ RA _ rfl (setRow_heap _ (p0+1) ZB RA 271 (0,0) Z4.out) Tryz.underlying271 rfl HRS.out) rfl ⟨rfl,?_⟩
 exact aj B4.out (by rw[HP0.out];omega) _
theorem t7 (K:Nat->Nat->Nat):Tryz.zeroCells272 = a9 K 0:=by
 have h:Tryz.zeroCells272 = a9 (fun _ _=>0) 0:=by kernel_rfl
 rw[h];apply Array.ext_getElem?;intro j;by_cases hj:j < 176
 ·rw[bz _ _ hj,bz _ _ hj,if_neg (by omega),if_neg (by omega)]
 ·rw[Array.getElem?_eq_none (by rw[bm];omega),Array.getElem?_eq_none (by rw[bm];omega)]
theorem tJ (K:Nat->Nat->Nat) (p:Nat):(Tryz.prog.info? 272).map (·.size)=some (a9 K p).size:=by rw[bm];kernel_rfl
theorem rJ {w:World} {g p:Nat} {K:Nat->Nat->Nat} {t:TypeId} (h:ae w g t (a9 K p)) (n:Nat) (hn:n < 11) (hp:16*n+16<=p):w.rangeAt g (n*16) (ar (K n)).toList:=fun j v hv=>by
 have hj:j < 16:=by
  have:=(List.getElem?_eq_some_iff.1 hv).1
  rwa [Array.length_toList,ah]at this
 rw[Array.getElem?_toList,aR _ hj]at hv;rw[h.cell,bz _ _ (by omega),if_pos (by omega),show(n*16+j) / 16=n by omega,show(n*16+j) % 16=j by omega]
 exact hv
theorem rl {w:World} {g p:Nat} {K:Nat->Nat->Nat} {t:TypeId} (h:ae w g t (a9 K p)):w.there g 0 16:=fun j hj=>by
 refine⟨?_,h.frozen _⟩;rw[h.cell,bz _ _ (by omega)]
 rfl
theorem sJ (K:Nat->Nat->Nat):dC (a9 K 0) 0 (ar (K 0)).toList=a9 K 16:=by
 apply Array.ext_getElem?;intro j;have hl:(ar (K 0)).toList.length=16:=by rw[Array.length_toList,ah]
 by_cases h1:j < 16
 ·have:=dY (ar (K 0)).toList 0 (a9 K 0) j (by omega) (by rw[bm];omega);rw[Nat.zero_add]at this;rw[this,Array.getElem?_toList,aR _ h1,bz _ _ (by omega),if_pos h1,Nat.div_eq_of_lt h1,Nat.mod_eq_of_lt h1]
 ·rw[cG _ _ _ _ (by omega)];by_cases hj:j < 176
  ·rw[bz _ _ hj,bz _ _ hj,if_neg (by omega),if_neg h1]
  ·rw[Array.getElem?_eq_none (by rw[bm];omega),Array.getElem?_eq_none (by rw[bm];omega)]
theorem jp {B g:Nat} (hg:B<=g):∀(vs:List Value) (o:Nat) (w0 w:World),Below B w0 w->Below B w0 (w.setCells g o vs)
 | [],_,_,_,h=>h
 | v :: r,o,w0,w,h=>jp hg r (o+1) w0 (w.setCell ⟨g,o,none⟩ v) (h.setCell (p:=⟨g,o,none⟩) hg v)
theorem gz {g b:Nat} (hg:b ≠ g) {t:TypeId} {cs:Array Value}:∀(vs:List Value) (o:Nat) (w:World),ae w b t cs->ae (w.setCells g o vs) b t cs
 | [],_,_,h=>h
 | v :: r,o,w,h=>gz hg r (o+1) (w.setCell ⟨g,o,none⟩ v) (h.far (p:=⟨g,o,none⟩) hg v)
theorem ow (f g key:Nat->Nat) (hf:∀j,f j < 256) (hk:br key) (w:World):Calls Tryz.prog 182 #[.agg (aV f g),.agg (ar key)] w fun e w'=>e=.returned (.agg (a9 (aX f key) 176))/\Below w.heap.size w w':=by
 obtain⟨K,hK⟩:=af (aX f key)
 have HZ:=t7 K;have HKL:Hid (∀n i,i < 16->K n i < 256):=zh (by rw[hK];exact fun n i hi=>eK hf hk n i hi);have HSF:Hid (∀n,K (n+1) 0=K n 0 ^^^ f (K n 13) ^^^ uS n):=zh (by rw[hK];exact n3 f key);have HSH:Hid (∀n i,i ≠ 0->i < 4->K (n+1) i=K n i ^^^ f (K n (12+(i+1) % 4))):=zh (by rw[hK];exact px f key);have HST:Hid (∀n i,4<=i->K (n+1) i=K n i ^^^ K (n+1) (i-4)):=zh (by rw[hK];exact oQ f key);have HK0:Hid (ar (K 0)=ar key):=zh (by rw[hK];rfl);have HF:=zh hf;have HBX:=zh (fun j (hj:j < 256)=>(cN f g (j:=j) (by omega)).trans (by rw[if_pos hj]));obtain⟨BX,hBX⟩:=af (aV f g)
 obtain⟨KY,hKY⟩:=af (ar key)
 have HSK:Hid ((Tryz.prog.info? 23).map (·.size)=some KY.size):=zh (by rw[hKY,ah];kernel_rfl);have HSKB:Hid ((Tryz.prog.info? 271).map (·.size)=some KY.size):=zh (by rw[hKY];exact aD _);have HOK:Hid (KY.all (·.oneCell')=true):=zh (by rw[hKY];exact aI _);have HKY:=zh hKY;rw[<-hK,<-hBX,<-hKY];rw[<-hBX]at HBX;clear hK hBX hKY hf hk;go_enter Tryz.func182,Tryz.ntmps182;go_upto_region 1 with (fail)
 obtain⟨sb,hsb⟩:=af w.heap.size
 obtain⟨kb,hkb⟩:=af (sb+1)
 obtain⟨ob,hob⟩:=af (sb+1+1)
 refine ag (fun V=>ae V sb 269 BX/\ae V kb 23 KY/\ae V ob 272 (a9 K 0)/\Below w.heap.size w V) ⟨by rw[hsb];exact((aq _ _ _ _ rfl).alloc _).alloc _,by rw[hkb,hsb];exact(aq _ _ _ _ (by simp)).alloc _,by rw[hob,hsb];exact aq _ _ _ _ (by simp),((bM _).alloc (by simp) _).alloc (by simp;omega) _⟩ ?_;rintro W1 ⟨b1,b2,b3,b4⟩;have B1:=zh b1;have B2:=zh b2;have B3:=zh b3;have B4:=zh b4;have HS0:=zh (show w.heap.size<=sb/\sb < ob/\kb < ob/\ob < W1.heap.size by have:=b3.lt;omega);rw[<-hsb,<-hob,<-hkb];clear HZ b1 b2 b3 b4 hsb hkb hob;go_upto_region 2 with (first
  | (refine wpList_load_row rfl _ _ rfl kb rfl 23 KY (0,0) _ B2.out Tryz.underlying23 rfl HSK.out ?_)
  | (refine wpList_store_mid rfl _ _ _ rfl ob 0 KY rfl rfl (by rw[HKY.out,ah];exact rl B3.out) HSKB.out HOK.out ?_))
 refine ag (fun V=>ae V sb 269 BX/\ae V ob 272 (a9 K 16)/\Below w.heap.size w V) ⟨gz (by have:=HS0.out;omega) _ _ _ B1.out,by have:=bY KY.toList 0 _ _ B3.out;rw[HKY.out,<-HK0.out,sJ]at this;rw[HKY.out,<-HK0.out];exact this,jp (by have:=HS0.out;omega) _ _ _ _ B4.out⟩ ?_;rintro W2 ⟨b1,b2,b3⟩;have C1:=zh b1;have C2:=zh b2;have C3:=zh b3;clear b1 b2 b3 B1 B2 B3 B4;have SZ:=zh (show w.heap.size<=sb/\sb < ob from ⟨HS0.out.1,HS0.out.2.1⟩);clear HS0;go_wp2;go_loopw [5,6] (fun v5 v6 wr=>∃k n:Nat,k<=10/\n=k+1/\v6=.int .i64 n/\v5=.int .u8 (uS k:Nat)/\ae wr sb 269 BX/\ae wr ob 272 (a9 K (16*n))/\Below w.heap.size w wr) (fun _ v6 _=>11-(intOf v6).toNat)
 case atStart=>exact⟨0,1,by omega,rfl,rfl,rfl,C1.out,C2.out,C3.out⟩
 case round=>
  clear C1 C2 C3;obtain⟨k,n,hk,hn,rfl,rfl,hB,hO,hb⟩:=hrel;have HB:=zh hB;have HO:=zh hO;have HBW:=zh hb;clear hB hO hb;by_cases hlt:k < 10
  ·have hnk:(n:Int)-1=(k:Int):=by omega
   have n10:(n:Int)<=10:=by omega
   have n0:(0:Int)<=(n:Int):=by omega
   have n1:(n:Int) < 11:=by omega
   have k0:(0:Int)<=(k:Int):=by omega
   have k1:(k:Int) < 11:=by omega
   have HN:=zh hn;have HRK:=zh (rJ HO.out k (by omega) (by omega));have HSB:=zh (show(Tryz.prog.info? 271).map (·.size)=some (ar (K k)).toList.length by rw[Array.length_toList,ah];kernel_rfl);have HSB2:=zh (aD (K k));have HZ2:Hid ((#[.int .u8 0,.int .u8 0,.int .u8 0,.int .u8 0,.int .u8 0,.int .u8 0,.int .u8 0,.int .u8 0,.int .u8 0,.int .u8 0,.int .u8 0,.int .u8 0,.int .u8 0,.int .u8 0,.int .u8 0,.int .u8 0]:Array Value).size=(ar (K k)).size):=zh (by rw[ah];rfl);have HO2:=zh (aI (K k));have HD:=zh (fun V=>iL (uS k) (pP k) V);obtain⟨KK,hKK⟩:=af (ar (K k))
   have HKK:=zh hKK;obtain⟨pw,hpw⟩:=af (uS k)
   obtain⟨pw',hpw'⟩:=af (uI (uS k))
   have HPW:=zh hpw;have HPW':=zh hpw';rw[<-hKK]at HRK HSB HSB2 HZ2 HO2;rw[<-hpw']at HD;rw[<-hpw]at HD ⊢;clear hn hKK hpw hpw';obtain⟨lb,hlb⟩:=af wr.heap.size
   have HLB:=zh hlb;clear hlb;go_upto_region 7 with (first
    | (refine wpList_load_mid rfl _ _ rfl ob (k*16) rfl KK.toList _ HRK.out Tryz.underlying271 rfl HSB.out ?_)
    | (refine wpList_store_row rfl _ _ _ rfl wr.heap.size KK rfl rfl 271 #[.int .u8 0,.int .u8 0,.int .u8 0,.int .u8 0,.int .u8 0,.int .u8 0,.int .u8 0,.int .u8 0,.int .u8 0,.int .u8 0,.int .u8 0,.int .u8 0,.int .u8 0,.int .u8 0,.int .u8 0,.int .u8 0] (ae.new _ _ _) HSB2.out HZ2.out HO2.out ?_))
   rw[<-HLB.out];refine ag (fun V=>ae V sb 269 BX/\ae V ob 272 (a9 K (16*n+0))/\ae V lb 271 KK/\Below w.heap.size w V) ⟨(setRow_other _ _ _ _ (by have:=HB.out.lt;have:=HLB.out;omega)).trans (HB.out.alloc _),(setRow_other _ _ _ _ (by have:=HO.out.lt;have:=HLB.out;omega)).trans (HO.out.alloc _),by rw[HLB.out];exact setRow_heap _ _ #[.int .u8 0,.int .u8 0,.int .u8 0,.int .u8 0,.int .u8 0,.int .u8 0,.int .u8 0,.int .u8 0,.int .u8 0,.int .u8 0,.int .u8 0,.int .u8 0,.int .u8 0,.int .u8 0,.int .u8 0,.int .u8 0] KK 271 (0,0) (ae.new _ _ _),by rw[HLB.out];exact aj (HBW.out.alloc HBW.out.size _) HBW.out.size _⟩ ?_;rintro W3 ⟨b1,b2,b3,b4⟩;have D1:=zh b1;have D2:=zh b2;have D3:=zh b3;have D4:=zh b4;have HLO:=zh (show sb < lb/\ob < lb by have:=HB.out.lt;have:=HO.out.lt;have:=HLB.out;omega);clear b1 b2 b3 b4 HB HO HBW HRK;have HLK:Hid (∀j,j < 16->KK[j]? = some (.int .u8 (K k j:Nat))):=zh (fun j hj=>by rw[HKK.out];exact aR _ hj);go_wp2;go_loopw [19] (fun v wr=>∃i:Nat,i<=16/\v=.int .i64 i/\ae wr sb 269 BX/\ae wr ob 272 (a9 K (16*n+i))/\ae wr lb 271 KK/\Below w.heap.size w wr) (fun v _=>16-(intOf v).toNat)
   case atStart=>exact⟨0,by omega,rfl,D1.out,D2.out,D3.out,D4.out⟩
   case round=>
    clear D1 D2 D3 D4;obtain⟨i,hi,rfl,hB,hO,hL,hb⟩:=hrel;have HB:=zh hB;have HO:=zh hO;have HL:=zh hL;have HBW:=zh hb;clear hB hO hL hb;by_cases hli:i < 16
    ·have i0:(0:Int)<=(i:Int):=by omega
     have i1:(i:Int) < 16:=by omega
     have dL:({ heap:=wr.heap,tape:=wr.tape,drawn:=wr.drawn+1,os:=wr.os,output:=wr.output }:World).cell? ⟨lb,i,none⟩=some (.int .u8 (K k i:Nat)):=(HL.out.cell i).trans (HLK.out i hli);have cL:wr.cell? ⟨lb,i,none⟩=some (.int .u8 (K k i:Nat)):=dL;have HW:Hid (∀z:Nat,z=K n i->∃V,V=wr.drew/\(wr.drew).cell? ⟨ob,n*16+i,none⟩=some (.int .u8 0)/\(wr.drew).frozen? ⟨ob,n*16+i,none⟩=false/\ae (wr.drew.setCell ⟨ob,n*16+i,none⟩ (.int .u8 (z:Int))) sb 269 BX/\ae (wr.drew.setCell ⟨ob,n*16+i,none⟩ (.int .u8 (z:Int))) ob 272 (a9 K (16*n+(i+1)))/\ae (wr.drew.setCell ⟨ob,n*16+i,none⟩ (.int .u8 (z:Int))) lb 271 KK/\Below w.heap.size w (wr.drew.setCell ⟨ob,n*16+i,none⟩ (.int .u8 (z:Int)))):=zh (fun z hz=>by
      have hOd:ae wr.drew ob _ _:=HO.out;have hBd:ae wr.drew sb _ _:=HB.out;have hLd:ae wr.drew lb _ _:=HL.out;refine⟨_,rfl,?_,hOd.frozen _,hBd.far (p:=⟨ob,n*16+i,none⟩) (by have:=SZ.out;show sb ≠ ob;omega) _,?_,hLd.far (p:=⟨ob,n*16+i,none⟩) (by have:=HLO.out;show lb ≠ ob;omega) _,(HBW.out.drew).setCell (p:=⟨ob,n*16+i,none⟩) (by have:=SZ.out;show w.heap.size<=ob;omega) _⟩
      ·rw[hOd.cell,bz _ _ (by omega),if_neg (by omega)];rfl
      ·have:=hOd.set_ (n*16+i) (.int .u8 (z:Int));have e:=oG K (16*n+i) (by omega);rw[show(16*n+i) / 16=n by omega,show(16*n+i) % 16=i by omega,<-hz,show 16*n+i=n*16+i by omega]at e;rw[show 16*n+i=n*16+i by omega,e]at this;rw[show 16*n+(i+1)=n*16+i+1 by omega]
       exact this)
     have hx8:=HKL.out k i hli;rcases (by omega:i=0\/(i ≠ 0/\i < 4)\/4<=i)with hc | ⟨hc,hc4⟩ | hc
     focus
      have t0:((i:Int) == 0)=true:=by rw[beq_iff_eq];omega
      have dM:({ heap:=wr.heap,tape:=wr.tape,drawn:=wr.drawn+1,os:=wr.os,output:=wr.output }:World).cell? ⟨lb,13,none⟩=some (.int .u8 (K k 13:Nat)):=(HL.out.cell 13).trans (HLK.out 13 (by decide));have cM:wr.cell? ⟨lb,13,none⟩=some (.int .u8 (K k 13:Nat)):=dM;have dS:({ heap:=wr.heap,tape:=wr.tape,drawn:=wr.drawn+1,os:=wr.os,output:=wr.output }:World).cell? ⟨sb,K k 13,none⟩=some (.int .u8 (f (K k 13):Nat)):=(HB.out.cell _).trans (HBX.out _ (HKL.out k 13 (by decide)));have cS:wr.cell? ⟨sb,K k 13,none⟩=some (.int .u8 (f (K k 13):Nat)):=dS;have m1:((K k 13:Nat):Int) < 256:=by have:=HKL.out k 13 (by decide);omega
      have x1:=bx (K k i) (f (K k 13)) _ hx8 (HF.out _) rfl;have x2:=bx _ pw (K n i) (be hx8 (HF.out (K k 13))) (by rw[HPW.out];exact pP k) (by rw[HPW.out,HN.out,hc,HSF.out k]);generalize K k i ^^^ f (K k 13)=x12 at x1 x2;have HW2:=HW.out (K n i) rfl;generalize K k 13=m at dM dS cM cS m1 x1;generalize f m=y at dS cS x1;generalize K k i=x at dL cL x1 hx8;generalize K n i=z at x2 HW2;have HWh:=zh HW2;clear HW2 hc HW;go_upto_region 12 with (fail)
      go_still_tail 15,(by kernel_rfl)
      clear dL dM dS cL cM cS
     rotate_left
     focus
      have t0:((i:Int) == 0)=false:=by rw[beq_eq_false_iff_ne];omega
      have t4:(i:Int) < 4:=by omega
      obtain⟨q,hq⟩:=af (12+(i+1) % 4)
      have r1:IntKind.i64.wrap ((i:Int)+1)=(i:Int)+1:=IntWalk.i64_in _ (by omega);have r2:((i:Int)+1).tmod 4=((i:Int)+1) % 4:=Int.tmod_eq_emod_of_nonneg (by omega);have r3:IntKind.i64.wrap (((i:Int)+1) % 4)=((i:Int)+1) % 4:=IntWalk.i64_in _ (by omega);have r4:IntKind.i64.wrap (12+((i:Int)+1) % 4)=(q:Int):=by rw[IntWalk.i64_in _ (by omega)];omega
      have q0:(0:Int)<=(q:Int):=by omega
      have q1:(q:Int) < 16:=by omega
      have hqn:q < 16:=by omega
      have dM:({ heap:=wr.heap,tape:=wr.tape,drawn:=wr.drawn+1,os:=wr.os,output:=wr.output }:World).cell? ⟨lb,q,none⟩=some (.int .u8 (K k q:Nat)):=(HL.out.cell q).trans (HLK.out q hqn);have cM:wr.cell? ⟨lb,q,none⟩=some (.int .u8 (K k q:Nat)):=dM;have dS:({ heap:=wr.heap,tape:=wr.tape,drawn:=wr.drawn+1,os:=wr.os,output:=wr.output }:World).cell? ⟨sb,K k q,none⟩=some (.int .u8 (f (K k q):Nat)):=(HB.out.cell _).trans (HBX.out _ (HKL.out k q hqn));have cS:wr.cell? ⟨sb,K k q,none⟩=some (.int .u8 (f (K k q):Nat)):=dS;have m1:((K k q:Nat):Int) < 256:=by have:=HKL.out k q hqn;omega
      have x1:=bx (K k i) (f (K k q)) (K n i) hx8 (HF.out _) (by rw[HN.out,HSH.out k i hc hc4,hq]);have HW2:=HW.out (K n i) rfl;generalize K k q=m at dM dS cM cS m1 x1;generalize f m=y at dS cS x1;generalize K k i=x at dL cL x1 hx8;generalize K n i=z at x1 HW2;have HWh:=zh HW2;clear HW2 hc HW hq hqn;go_upto_region 14 with (fail)
      go_still_tail 17,(by kernel_rfl)
      clear r1 r2 r3 r4;clear dL dM dS cL cM cS
     rotate_left
     focus
      have t0:((i:Int) == 0)=false:=by rw[beq_eq_false_iff_ne];omega
      have t4:¬(i:Int) < 4:=by omega
      obtain⟨q,hq⟩:=af (i-4)
      have r1:IntKind.i64.wrap ((i:Int)-4)=(q:Int):=by rw[IntWalk.i64_in _ (by omega)];omega
      have q0:(0:Int)<=(q:Int):=by omega
      have q1:(q:Int) < 16:=by omega
      have hqn:q < 16:=by omega
      have dM:({ heap:=wr.heap,tape:=wr.tape,drawn:=wr.drawn+1,os:=wr.os,output:=wr.output }:World).cell? ⟨ob,n*16+q,none⟩=some (.int .u8 (K n q:Nat)):=(HO.out.cell (n*16+q)).trans ((bz _ _ (by omega)).trans (by rw[if_pos (by omega),show(n*16+q) / 16=n by omega,show(n*16+q) % 16=q by omega]));have cM:wr.cell? ⟨ob,n*16+q,none⟩=some (.int .u8 (K n q:Nat)):=dM;have x1:=bx (K k i) (K n q) (K n i) hx8 (HKL.out n q hqn) (by rw[hq,HN.out];exact(HST.out k i hc).symm);have HW2:=HW.out (K n i) rfl;generalize K n q=y at dM cM x1;generalize K k i=x at dL cL x1 hx8;generalize K n i=z at x1 HW2;have HWh:=zh HW2;clear HW2 hc HW hq hqn;go_upto_region 10 with (fail)
      go_still_tail 14,(by kernel_rfl)
      clear r1;clear dL dM cL cM
     all_goals
      change wpList _ _ _ _ _ wr.drew;obtain⟨V,hV,v1,v2,v3,v4,v5,v6⟩:=HWh.out;have V3:=zh v3;have V4:=zh v4;have V5:=zh v5;have V6:=zh v6;clear hV v3 v4 v5 v6;obtain⟨WD,hWD⟩:=af wr.drew
      rw[<-hWD]at v1 v2 V3 V4 V5 V6 ⊢;clear hWD;go_wp2;go_roundw
      case rel=>exact⟨i+1,by omega,by go_num,V3.out,V4.out,V5.out,V6.out⟩
      case measure=>simp[intOf];omega
    ·obtain rfl:i=16:=by omega
     have n1:¬(16:Int) < 16:=by omega
     go_wp2_with (go_at_call 211;refine(HD.out _).mono ?_;rintro e w4 ⟨rfl,rfl⟩);go_roundw
     case rel=>exact⟨k+1,n+1,by omega,by have:=HN.out;omega,by go_num,by rw[HPW'.out];rfl,HB.out,HO.out,HBW.out⟩
     case measure=>simp[intOf];omega
  ·obtain rfl:k=10:=by omega
   subst hn;have HSZ:=zh (tJ K 176);have HO1:=zh (p8 K 176);have HO':Hid (ae wr ob 272 (a9 K 176)):=zh HO.out;obtain⟨X,hX⟩:=af (a9 K 176)
   have HX:=zh hX;rw[<-hX]at HO' HSZ HO1;clear hX HO;have n1:¬(11:Int)<=10:=by omega
   obtain⟨p0,hp0⟩:=af (uS 10)
   rw[<-hp0];clear hp0;go_wp2_with (first
    | (refine wpList_load_row rfl _ _ rfl ob rfl 272 X (0,0) _ HO'.out Tryz.underlying272 rfl HSZ.out ?_)
    | (refine wpList_store_row rfl _ _ _ rfl ob X rfl rfl 272 X HO'.out HSZ.out rfl HO1.out ?_))
   refine bodyPost_ret (v:=.agg X) (results_cell_row (g:=ob) (t:=272) (fr:=(0,0)) Tryz.results182 _ _ X _ rfl (setRow_heap wr ob X X 272 (0,0) HO'.out) Tryz.underlying272 rfl HSZ.out) rfl ⟨by rw[HX.out],?_⟩
   exact aj HBW.out (by have:=SZ.out;omega) _
end Go.Proofs.YtiiojpnckbglcaaGreat
