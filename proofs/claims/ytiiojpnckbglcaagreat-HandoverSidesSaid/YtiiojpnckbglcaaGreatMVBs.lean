import Derived.Test.YtiiojpnckbglcaaGreatVAs
import Derived.Test.YtiiojpnckbglcaaGreatUs
import Derived.Test.YtiiojpnckbglcaaGreatTAs
import Derived.Deep.RegionHeld3
import Derived.Deep.DrawnRows
import Derived.Deep.RegionWith
import Derived.Deep.DeepCutAuto
import Derived.Deep.CutRange
import Derived.Deep.CutBlock
set_option maxRecDepth 100000
set_option maxHeartbeats 1600000
set_option linter.unusedVariables false
set_option linter.unusedSimpArgs false
namespace Go.Proofs.YtiiojpnckbglcaaGreat
open Go.RowKit
theorem bx (a b c:Nat) (ha:a < 256) (hb:b < 256) (hc:a ^^^ b=c):bits .xor .u8 (a:Int) (b:Int)=(c:Int):=by rw[u8_xor_nat a b ha hb,hc]
theorem iL (a:Nat) (ha:a < 256) (w:World):Calls Tryz.prog 211 #[.int .u8 a] w fun e w'=>e=.returned (.int .u8 (uI a:Nat))/\w=w':=by
 have hx:bits .xor .u8 ((a:Int)*2 % 256) ((a:Int) / 128*27)=((uI a:Nat):Int):=by
  rw[show((a:Int)*2 % 256)=((a*2 % 256:Nat):Int) by omega,show((a:Int) / 128*27)=((a / 128*27 % 256:Nat):Int) by omega]
  exact bx _ _ _ (Nat.mod_lt _ (by decide)) (Nat.mod_lt _ (by decide)) rfl
 go_enter Tryz.func211,Tryz.ntmps211;go_wp2;go_ret
 exact⟨rfl,rfl⟩
theorem tu (a:Nat) (ha:a < 256) (w:World):Calls Tryz.prog 210 #[.int .u8 a,.int .i64 1] w fun e w'=>e=.returned (.int .u8 (jq a 1:Nat))/\w=w':=by
 have hb:bits BinOp.and IntKind.u64 1 7=1:=by decide
 have hx:bits .or .u8 ((a:Int)*2 % 256) ((a:Int) / 128)=((jq a 1:Nat):Int):=by
  rw[show((a:Int)*2 % 256)=((a*2 % 256:Nat):Int) by omega,show((a:Int) / 128)=((a / 128:Nat):Int) by omega,u8_or_nat _ _ (Nat.mod_lt _ (by decide)) (by omega)]
  rfl
 go_enter Tryz.func210,Tryz.ntmps210;go_wp2;go_ret
 exact⟨rfl,rfl⟩
theorem ug (a:Nat) (ha:a < 256) (w:World):Calls Tryz.prog 210 #[.int .u8 a,.int .i64 2] w fun e w'=>e=.returned (.int .u8 (jq a 2:Nat))/\w=w':=by
 have hb:bits BinOp.and IntKind.u64 2 7=2:=by decide
 have hx:bits .or .u8 ((a:Int)*4 % 256) ((a:Int) / 64)=((jq a 2:Nat):Int):=by
  rw[show((a:Int)*4 % 256)=((a*4 % 256:Nat):Int) by omega,show((a:Int) / 64)=((a / 64:Nat):Int) by omega,u8_or_nat _ _ (Nat.mod_lt _ (by decide)) (by omega)]
  rfl
 go_enter Tryz.func210,Tryz.ntmps210;go_wp2;go_ret
 exact⟨rfl,rfl⟩
theorem sY (a:Nat) (ha:a < 256) (w:World):Calls Tryz.prog 210 #[.int .u8 a,.int .i64 3] w fun e w'=>e=.returned (.int .u8 (jq a 3:Nat))/\w=w':=by
 have hb:bits BinOp.and IntKind.u64 3 7=3:=by decide
 have hx:bits .or .u8 ((a:Int)*8 % 256) ((a:Int) / 32)=((jq a 3:Nat):Int):=by
  rw[show((a:Int)*8 % 256)=((a*8 % 256:Nat):Int) by omega,show((a:Int) / 32)=((a / 32:Nat):Int) by omega,u8_or_nat _ _ (Nat.mod_lt _ (by decide)) (by omega)]
  rfl
 go_enter Tryz.func210,Tryz.ntmps210;go_wp2;go_ret
 exact⟨rfl,rfl⟩
theorem tv (a:Nat) (ha:a < 256) (w:World):Calls Tryz.prog 210 #[.int .u8 a,.int .i64 4] w fun e w'=>e=.returned (.int .u8 (jq a 4:Nat))/\w=w':=by
 have hb:bits BinOp.and IntKind.u64 4 7=4:=by decide
 have hx:bits .or .u8 ((a:Int)*16 % 256) ((a:Int) / 16)=((jq a 4:Nat):Int):=by
  rw[show((a:Int)*16 % 256)=((a*16 % 256:Nat):Int) by omega,show((a:Int) / 16)=((a / 16:Nat):Int) by omega,u8_or_nat _ _ (Nat.mod_lt _ (by decide)) (by omega)]
  rfl
 go_enter Tryz.func210,Tryz.ntmps210;go_wp2;go_ret
 exact⟨rfl,rfl⟩
theorem xa (a b:Nat) (ha:a < 256) (hb:b < 256) (w:World):Calls Tryz.prog 226 #[.int .u8 a,.int .u8 b] w fun e w'=>e=.returned (.int .u8 (kt a b:Nat))/\w=w':=by
 have HD:=zh (fun x hx=>iL x hx w);go_enter Tryz.func226,Tryz.ntmps226;go_wp2;go_loop [0,1,4] (fun v0 v1 v4=>∃k a' b' p:Nat,a' < 256/\b' < 2 ^ k/\k<=8/\p < 256/\v0=.int .u8 a'/\v1=.int .u8 b'/\v4=.int .u8 p/\kV k a' b' p=kt a b) (fun _ v1 _=>(intOf v1).toNat)
 case atStart=>exact⟨8,a,b,0,ha,by simpa using hb,by omega,by omega,rfl,rfl,rfl,rfl⟩
 case round=>
  obtain⟨k,a',b',p,h1,h2,h3,h4,rfl,rfl,rfl,h5⟩:=hrel;have HE:=zh h5;by_cases h0:b'=0
  ·subst h0;have HE2:=zh (show p=kt a b by rw[<-h5,q9]);clear h5;go_wp2;go_ret
   exact⟨eY (by rw[HE2.out]),rfl⟩
  ·obtain⟨k,rfl⟩:∃j,k=j+1:=by
    cases k with
    | zero=>simp at h2;omega
    | succ k=>exact⟨k,rfl⟩
   have hb8:b' < 256:=by
    have:2 ^ (k+1)<=2 ^ 8:=Nat.pow_le_pow_right (by decide) h3;omega
   have h6:=si k a' b' p h2 h0;have hne:((b':Int) != 0)=true:=by simp;omega
   have hand:bits .and .u8 (b':Int) 1=((b' % 2:Nat):Int):=by
    have:=u8_and_nat b' 1 hb8 (by decide);rw[Nat.and_one_is_mod]at this
    exact this
   have hhalf:b' / 2 < 2 ^ k:=by rw[Nat.pow_succ]at h2;omega
   have HH:=zh hhalf;have HN:=zh (h6.symm.trans h5);clear h5 h6 h2 hhalf;go_wp2_with (go_at_call 211;refine(HD.out a' h1).mono ?_;rintro e w2 ⟨rfl,rfl⟩);have hx:bits .xor .u8 (p:Int) ((b':Int) % 2*(a':Int) % 256)=((p ^^^ (b' % 2*a' % 256):Nat):Int):=by
    rw[show((b':Int) % 2*(a':Int) % 256)=((b' % 2*a' % 256:Nat):Int) by rw[Int.natCast_emod,Int.natCast_mul,Int.natCast_emod];rfl]
    exact bx _ _ _ h4 (Nat.mod_lt _ (by decide)) rfl
   refine⟨⟨k,uI a',b' / 2,p ^^^ (b' % 2*a' % 256),l7 _,HH.out,by omega,be h4 (Nat.mod_lt _ (by decide)),rfl,(by rw[Int.natCast_ediv];rfl),by rw[hx],HN.out⟩,?_⟩;simp[intOf];omega
end Go.Proofs.YtiiojpnckbglcaaGreat
namespace Go.Proofs.YtiiojpnckbglcaaGreat
open Go.RowKit
attribute [local go_sem ↓] Go.wp_at_zero Go.wp_at_succ
def aV (f g:Nat->Nat):Array Value:=Array.ofFn (n:=512) fun j=>.int .u8 ((if j.1 < 256 then f j.1 else g (j.1-256):Nat):Int)
theorem aN (f g:Nat->Nat):(aV f g).size=512:=by simp[aV]
theorem cN (f g:Nat->Nat) {j:Nat} (h:j < 512):(aV f g)[j]? = some (.int .u8 ((if j < 256 then f j else g (j-256):Nat):Int)):=by simp[aV,h]
theorem oX (f g:Nat->Nat) (i x:Nat) (hi:i < 256):(aV f g).setIfInBounds i (.int .u8 (x:Int))=aV (eA f i x) g:=by
 apply Array.ext_getElem?;intro j;rw[Array.getElem?_setIfInBounds,aN];by_cases hj:j < 512
 ·rw[cN _ _ hj,cN _ _ hj];by_cases e:i=j
  ·subst e;rw[if_pos rfl,if_pos (by omega),if_pos hi];simp[eA]
  ·have e2:¬j=i:=fun h=>e h.symm;rw[if_neg e];simp[eA,e2]
 ·rw[if_neg (by omega),Array.getElem?_eq_none (by rw[aN];omega),Array.getElem?_eq_none (by rw[aN];omega)]
theorem nP (f g:Nat->Nat) (i x:Nat) (hi:i < 256):(aV f g).setIfInBounds (256+i) (.int .u8 (x:Int))=aV f (eA g i x):=by
 apply Array.ext_getElem?;intro j;rw[Array.getElem?_setIfInBounds,aN];by_cases hj:j < 512
 ·rw[cN _ _ hj,cN _ _ hj];by_cases e:256+i=j
  ·subst e;rw[if_pos rfl,if_pos (by omega),if_neg (by omega)];simp[eA]
  ·rw[if_neg e];by_cases h8:j < 256
   ·rw[if_pos h8,if_pos h8]
   ·have e2:¬j-256=i:=by omega
    rw[if_neg h8,if_neg h8];simp[eA,e2]
 ·rw[if_neg (by omega),Array.getElem?_eq_none (by rw[aN];omega),Array.getElem?_eq_none (by rw[aN];omega)]
theorem tm (i v:Nat) (hi:i < 256) (hv:v < 256) (sb:Nat) (f g:Nat->Nat) (w:World) (h:ae w sb 269 (aV f g)) :
  Calls Tryz.prog 209 #[.int .u8 i,.int .u8 v,.pointer (some ⟨sb,0,none⟩)] w fun e w'=>e=.returned (.tuple #[])/\ae w' sb 269 (aV (eA f i (sm v)) (eA g (sm v) i))/\aa (fun k=>k=sb) w w'/\w'.heap.size=w.heap.size:=by
 have H1:=zh (tu v hv w);have H2:=zh (ug v hv w);have H3:=zh (sY v hv w);have H4:=zh (tv v hv w);have l1:=fN v 1 hv;have l2:=fN v 2 hv;have l3:=fN v 3 hv;have l4:=fN v 4 hv;have m1:=be hv l1;have m2:=be m1 l2;have m3:=be m2 l3;have m4:=be m3 l4;have x1:=bx v (jq v 1) _ hv l1 rfl;have x2:=bx _ (jq v 2) _ m1 l2 rfl;have x3:=bx _ (jq v 3) _ m2 l3 rfl;have x4:=bx _ (jq v 4) _ m3 l4 rfl;have x5:bits .xor .u8 ((v ^^^ jq v 1 ^^^ jq v 2 ^^^ jq v 3 ^^^ jq v 4:Nat):Int) 99=((sm v:Nat):Int):=bx _ 99 (sm v) m4 (by decide) rfl;obtain⟨r1,hr1⟩:∃r,r=jq v 1:=⟨_,rfl⟩
 obtain⟨r2,hr2⟩:∃r,r=jq v 2:=⟨_,rfl⟩
 obtain⟨r3,hr3⟩:∃r,r=jq v 3:=⟨_,rfl⟩
 obtain⟨r4,hr4⟩:∃r,r=jq v 4:=⟨_,rfl⟩
 obtain⟨a,ha⟩:=af (sm v)
 have ha9:a < 256:=by rw[ha];exact pI v hv
 rw[<-hr1]at H1 x1 x2 x3 x4 x5;rw[<-hr2]at H2 x2 x3 x4 x5;rw[<-hr3]at H3 x3 x4 x5;rw[<-hr4]at H4 x4 x5;rw[<-ha]at x5 ⊢;clear hr1 hr2 hr3 hr4 ha l1 l2 l3 l4 m1 m2 m3 m4;generalize v ^^^ r1=s1 at x1 x2 x3 x4 x5;generalize s1 ^^^ r2=s2 at x2 x3 x4 x5;generalize s2 ^^^ r3=s3 at x3 x4 x5;generalize s3 ^^^ r4=s4 at x4 x5;have hb1:ae (w.setCell ⟨sb,i,none⟩ (.int .u8 a)) sb 269 (aV (eA f i a) g):=by
  rw[<-oX f g i a hi];exact h.set_ i _
 have hb2:ae ((w.setCell ⟨sb,i,none⟩ (.int .u8 a)).setCell ⟨sb,256+a,none⟩ (.int .u8 i)) sb 269 (aV (eA f i a) (eA g a i)):=by
  rw[<-nP _ g a i ha9];exact hb1.set_ (256+a) _
 have c1:w.cell? ⟨sb,i,none⟩=some (.int .u8 (f i)):=by rw[h.cell,cN _ _ (by omega),if_pos hi]
 have c2:w.cell? ⟨sb,256+a,none⟩=some (.int .u8 (g a)):=by rw[h.cell,cN _ _ (by omega),if_neg (by omega),show 256+a-256=a by omega]
 have f1:=h.frozen i;have f2:=h.frozen (256+a);have HB:=zh hb2;have i1:(i:Int) < 256:=by omega
 have a1:(a:Int) < 256:=by omega
 clear h hb1 hb2;go_enter Tryz.func209,Tryz.ntmps209;go_upto_region 1 with (first
  | (go_at_call 210;first
    | (with_reducible refine(H1.out).mono ?_;rintro e w2 ⟨rfl,rfl⟩)
    | (with_reducible refine(H2.out).mono ?_;rintro e w2 ⟨rfl,rfl⟩)
    | (with_reducible refine(H3.out).mono ?_;rintro e w2 ⟨rfl,rfl⟩)
    | (with_reducible refine(H4.out).mono ?_;rintro e w2 ⟨rfl,rfl⟩)))
 go_wp2;refine bodyPost_end (results_none rfl _ _ _) rfl ?_
 exact⟨rfl,HB.out,((aa.refl (F:=fun k=>k=sb)).setCell (p:=⟨sb,i,none⟩) rfl _).setCell (p:=⟨sb,256+a,none⟩) rfl _,by simp⟩
end Go.Proofs.YtiiojpnckbglcaaGreat
namespace Go.Proofs.YtiiojpnckbglcaaGreat
open Go.RowKit
theorem gd {P:Program} (t e:TypeId) (len:Nat) (ht:P.underlying t=some (.array len e)) (i:TypeInfo) (hi:P.info? e=some i) (hs:i.size=1) (k:IntKind) (hd:P.underlying e=some (.int k)) (cs:Array Value) (j:Nat) (hj:j < len) (v:Value) (hv:cs[j]? = some v) (w:World):(Instr.index t (.agg cs) (.int .i64 j)).run P w=.ok v w:=by
 have h1:(0:Int)<=(j:Int)/\(j:Int) < (len:Int):=by omega
 simp[Instr.index,asIntOf,run_underlying ht,sizeOf,typeInfo,hi,hs,hj,part,isAgg,run_underlying hd,hv]
theorem iT:∃i:TypeInfo,Tryz.prog.info? 5 = some i/\i.size=1:=by
 have h:(Tryz.prog.info? 5).map (·.size)=some 1:=by kernel_rfl
 cases hi:Tryz.prog.info? 5 with
 | none=>rw[hi]at h;cases h
 | some i=>rw[hi]at h;exact⟨i,rfl,by simpa using h⟩
end Go.Proofs.YtiiojpnckbglcaaGreat
namespace Go.Proofs.YtiiojpnckbglcaaGreat
open Go.RowKit
attribute [local go_sem ↓] Go.wp_at_zero Go.wp_at_succ
def dA (k:Nat):Array Value:=Array.ofFn (n:=255) fun j=>.int .u8 ((if j.1 < k then iH j.1 else 0:Nat):Int)
theorem ez (k:Nat):(dA k).size=255:=by simp[dA]
theorem eS (k:Nat) {j:Nat} (h:j < 255):(dA k)[j]? = some (.int .u8 ((if j < k then iH j else 0:Nat):Int)):=by simp[dA,h]
theorem oU (k:Nat) (hk:k < 255):(dA k).setIfInBounds k (.int .u8 (iH k:Nat))=dA (k+1):=by
 apply Array.ext_getElem?;intro j;rw[Array.getElem?_setIfInBounds,ez];by_cases hj:j < 255
 ·rw[eS _ hj,eS _ hj];by_cases e:k=j
  ·subst e;rw[if_pos rfl,if_pos hk,if_pos (by omega)]
  ·rw[if_neg e];by_cases h2:j < k
   ·rw[if_pos h2,if_pos (by omega)]
   ·rw[if_neg h2,if_neg (by omega)]
 ·rw[if_neg (by omega),Array.getElem?_eq_none (by rw[ez];omega),Array.getElem?_eq_none (by rw[ez];omega)]
theorem lG:Tryz.zeroCells269 = aV (fun _=>0) (fun _=>0):=by kernel_rfl
theorem vu:Tryz.zeroCells300 = dA 0:=by kernel_rfl
theorem jL (f g:Nat->Nat):(aV f g).all (·.oneCell')=true:=by
 rw[Array.all_eq_true];intro i hi;simp only[aV,Array.getElem_ofFn]
 rfl
theorem jt (w:World):Calls Tryz.prog 181 #[] w fun e w'=>e=.returned (.agg (aV fX wP))/\Below w.heap.size w w':=by
 have HZ:=lG;have HZP:=vu;go_enter Tryz.func181,Tryz.ntmps181;go_upto_region 2 with (fail)
 obtain⟨sb,hsb⟩:=af w.heap.size
 refine ag (fun V=>ae V sb 269 (aV (fun _=>0) (fun _=>0))/\Below w.heap.size w V) ⟨by rw[hsb];exact ae.new _ _ _,bM _⟩ ?_;rintro W1 ⟨b1,b2⟩;have S1:=zh (tm 0 0 (by decide) (by decide) sb _ _ W1 b1);have B1:=zh b2;have HSB:=zh hsb;rw[<-hsb];clear HZ b1 b2 hsb;go_upto_region 5 with (go_at_call 209;refine(S1.out).mono ?_;rintro e w2 ⟨rfl,hB,hK,hs⟩;have H2:=zh hB;have K2:=zh hK;clear hB hK hs)
 obtain⟨pb,hpb⟩:=af w2.heap.size
 have hsp:sb ≠ pb:=by have:=H2.out.lt;omega
 refine ag (fun V=>ae V sb 269 (aV (kx 0) (nS 0))/\ae V pb 300 (dA 0)/\Below w.heap.size w V) ⟨H2.out.alloc _,by rw[hpb];exact ae.new _ _ _,(aa.below B1.out K2.out (fun k e=>by rw[e,HSB.out];exact Nat.le_refl _) (by have:=B1.out.size;omega)).alloc (by have:=K2.out.size;have:=B1.out.size;omega) _⟩ ?_;rintro W3 ⟨b1,b2,b3⟩;have F0:=zh (And.intro b1 (And.intro b2 b3));have hp0:w.heap.size<=pb:=by have:=K2.out.size;have:=B1.out.size;omega
 have HPB:=zh hp0;rw[<-hpb];clear b1 b2 b3 hpb HZP hp0;go_wp2;go_loopw [3,10] (fun v3 v10 wr=>∃k:Nat,k<=255/\v10=.int .i64 k/\v3=.int .u8 (iH k:Nat)/\ae wr sb 269 (aV (kx 0) (nS 0))/\ae wr pb 300 (dA k)/\Below w.heap.size w wr) (fun _ v10 _=>255-(intOf v10).toNat)
 case atStart=>exact⟨0,by omega,rfl,rfl,F0.out.1,F0.out.2.1,F0.out.2.2⟩
 case round=>
  clear F0;obtain⟨k,hk,rfl,rfl,hB,hP,hb⟩:=hrel;have k0:(0:Int)<=(k:Int):=by omega
  have HB:=zh hB;have HP:=zh hP;have HBW:=zh hb;clear hB hP hb;by_cases hlt:k < 255
  ·have k1:(k:Int) < 255:=by omega
   have c0:=HP.out.cell k;rw[eS k hlt]at c0;have f0:=HP.out.frozen k;have hx:=bx (iH k) (uI (iH k)) (iH (k+1)) (iK k) (l7 _) rfl;have HD:=zh (fun V=>iL (iH k) (iK k) V);have HS:=zh (oU k hlt);obtain⟨p,hp⟩:=af (iH k)
   obtain⟨p',hp'⟩:=af (iH (k+1))
   obtain⟨d,hd⟩:=af (uI (iH k))
   rw[<-hd]at hx HD;rw[<-hp']at hx;rw[<-hp]at hx HD HS ⊢;have HP':=zh hp';clear hp hp' hd;go_wp2_with (go_at_call 211;refine(HD.out _).mono ?_;rintro e w4 ⟨rfl,rfl⟩);go_roundw
   case rel=>
    refine⟨k+1,by omega,by go_num,by rw[HP'.out],HB.out.far (p:=⟨pb,k,none⟩) hsp _,?_,HBW.out.setCell (p:=⟨pb,k,none⟩) HPB.out _⟩;rw[<-HS.out]
    exact HP.out.set_ k _
   case measure=>simp[intOf];omega
  ·obtain rfl:k=255:=by omega
   have HU:=zh Tryz.underlying300;have HSZ:Hid ((Tryz.prog.info? 300).map (·.size)=some (dA 255).size):=zh (by rw[ez];kernel_rfl);have HAT:=zh (fun(j:Nat) (h:j < 255)=>(eS 255 h).trans (by rw[if_pos h]));have HCEL:=zh (fun(V:World) (h:ae V pb 300 (dA 255)) (j:Nat) (hj:j < 255)=>(h.cell j).trans ((eS 255 hj).trans (by rw[if_pos hj])));obtain⟨PW,hPW⟩:=af (dA 255)
   rw[<-hPW]at HP HSZ HAT HCEL;clear hPW hk;obtain⟨p0,hp0⟩:=af (iH 255)
   rw[<-hp0];clear hp0;have n1:¬(255:Int) < 255:=by omega
   go_wp2_with (refine wpList_load_row rfl _ _ rfl pb rfl 300 PW (0,0) _ HP.out HU.out rfl HSZ.out ?_);go_loopw [22] (fun v wq=>∃j:Nat,j<=255/\v=.int .i64 j/\ae wq sb 269 (aV (kx j) (nS j))/\ae wq pb 300 PW/\Below w.heap.size w wq) (fun v _=>255-(intOf v).toNat)
   case atStart=>exact⟨0,by omega,rfl,HB.out,HP.out,HBW.out⟩
   case round=>
    clear HB HP HBW;obtain⟨j,hj,rfl,hB,hP,hb⟩:=hrel;have j0:(0:Int)<=(j:Int):=by omega
    have HB:=zh hB;have HP:=zh hP;have HBW:=zh hb;clear hB hP hb;by_cases hlt2:j < 255
    ·have j1:(j:Int) < 255:=by omega
     obtain⟨iu,hiu,hius⟩:=iT;have hix:=gd (P:=Tryz.prog) 300 5 255 Tryz.underlying300 iu hiu hius .u8 Tryz.underlying5 PW j hlt2 _ (HAT.out j hlt2);obtain⟨q,hq⟩:=af ((255-j) % 255)
     have hq5:q < 255:=by rw[hq];exact Nat.mod_lt _ (by decide)
     have hrem:Int.tmod (255-(j:Int)) 255=(q:Int):=by
      rw[hq,show(255:Int)-(j:Int)=((255-j:Nat):Int) by omega]
      exact(Int.natCast_emod (255-j) 255).symm ▸ rfl
     have c0:=HCEL.out wr HP.out q hq5;have q0:(0:Int)<=(q:Int):=by omega
     have q1:(q:Int) < 255:=by omega
     have HS:=zh (tm (iH j) (iH q) (iK _) (iK _) sb _ _ wr HB.out);have HBK:=zh (show kx (j+1)=eA (kx j) (iH j) (sm (iH q))from by rw[kx,hq]);have HIK:=zh (show nS (j+1)=eA (nS j) (sm (iH q)) (iH j)from by rw[nS,hq]);obtain⟨x,hx⟩:=af (iH j)
     obtain⟨y,hy⟩:=af (iH q)
     rw[<-hx]at hix HS HBK HIK;rw[<-hy]at c0 HS HBK HIK;clear hx hy hq hiu;go_wp2_with (go_at_call 209;refine(HS.out).mono ?_;rintro e w4 ⟨rfl,hB,hK,hs⟩;have H4:=zh hB;have K4:=zh hK;clear hB hK hs);go_roundw
     case rel=>exact⟨j+1,by omega,by go_num,by rw[HBK.out,HIK.out];exact H4.out,K4.out.blk HP.out (fun e=>hsp e.symm),aa.below HBW.out K4.out (fun k e=>by rw[e,HSB.out];exact Nat.le_refl _) HBW.out.size⟩
     case measure=>simp[intOf];omega
    ·obtain rfl:j=255:=by omega
     have HSZ2:Hid ((Tryz.prog.info? 269).map (·.size)=some (aV fX wP).size):=zh (by rw[aN];kernel_rfl);have HU2:=zh Tryz.underlying269;have HO:=zh (jL fX wP);have HBX:Hid (ae wr sb 269 (aV fX wP)):=zh HB.out;obtain⟨BX,hBX⟩:=af (aV fX wP)
     rw[<-hBX]at HSZ2 HO HBX;have HBXE:=zh hBX;have HWS:=zh (show Below w.heap.size w (wr.setRow sb BX)from ⟨HBW.out.os,HBW.out.tape,HBW.out.output,by rw[size_setRow];exact HBW.out.size,fun i hi=>(setRow_other wr sb i BX (by have:=HSB.out;omega)).trans (HBW.out.block i hi)⟩);have HBS:=zh (show(wr.setRow sb BX).heap[sb]? = some (.cells BX 269 (0,0))from setRow_heap wr sb BX BX 269 (0,0) HBX.out);have n2:¬(255:Int) < 255:=by omega
     clear hBX HB HP;go_wp2_with (first
      | (refine wpList_load_row rfl _ _ rfl sb rfl 269 BX (0,0) _ HBX.out HU2.out rfl HSZ2.out ?_)
      | (refine wpList_store_row rfl _ _ _ rfl sb BX rfl rfl 269 BX HBX.out HSZ2.out rfl HO.out ?_))
     refine bodyPost_ret (v:=.agg BX) (results_cell_row (g:=sb) (t:=269) (fr:=(0,0)) Tryz.results181 _ _ BX _ rfl HBS.out HU2.out rfl HSZ2.out) rfl ⟨by rw[HBXE.out],HWS.out⟩
end Go.Proofs.YtiiojpnckbglcaaGreat
