import Derived.Test.YtiiojpnckbglcaaGreatMDJs
set_option maxRecDepth 1000000
set_option maxHeartbeats 4000000
set_option linter.unusedVariables false
set_option linter.unusedSimpArgs false
namespace Go.Proofs.YtiiojpnckbglcaaGreat
open Go.RowKit Go.Sort
attribute [local go_sem ↓] Go.wp_at_zero Go.wp_at_succ
theorem qV (B c n lo hi F:Nat) (d:Array Int) (hd:d.size=n) (hn:n<=1000000) (hlo:lo<=hi) (hb:F+hi<=n) (w:World) (h:aA w B n d) :
  Calls Tryz.prog 200 #[.slice (some ⟨B,0,none⟩) n c,.int .i64 lo,.int .i64 hi,.int .i64 F] w fun e w'=>e=.returned (.tuple #[])/\aA w' B n (siftDown ltInt hi F lo d)/\aa (fun k=>k=B) w w':=by
 have HU:=zh h;have HN:=zh hn;have HB:=zh hb;clear h hn;go_enter Tryz.func200,Tryz.ntmps200;go_wp2;go_loopw [8] (fun vi wr=>∃(root:Nat) (dk:Array Int),vi=.int .i64 root/\root<=hi/\dk.size=n/\aA wr B n dk/\aa (fun k=>k=B) w wr/\siftDown ltInt hi F root dk=siftDown ltInt hi F lo d) (fun vi _=>hi-(intOf vi).toNat)
 case atStart=>exact⟨lo,d,rfl,hlo,hd,HU.out,aa.refl,rfl⟩
 case round=>
  obtain⟨root,dk,rfl,hr,hsk,hU,hK,hO⟩:=hrel;have HO:=zh hO;have HUK:=zh hU;have HKK:=zh hK;have HSK:=zh hsk;clear hO hU hK hsk;have hnn:=HN.out;have hbb:=HB.out;obtain⟨k1,hk1⟩:=af (2*root+1)
  obtain⟨k2,hk2⟩:=af (2*root+2)
  obtain⟨p0,hp0⟩:=af (F+root)
  obtain⟨p1,hp1⟩:=af (F+k1)
  obtain⟨p2,hp2⟩:=af (F+k2)
  have v0:IntKind.i64.wrap (2*(root:Int))=2*(root:Int):=by simp[IntKind.wrap_i64];omega
  have v1:IntKind.i64.wrap (2*(root:Int)+1)=(k1:Int):=by simp[IntKind.wrap_i64];omega
  by_cases h0:hi<=k1
  ·have h0z:(hi:Int)<=(k1:Int):=by omega
   have HE:=zh (show siftDown ltInt hi F root dk=dk from kj dk (by omega));go_wp2;go_end0
   exact⟨rfl,by rw[<-HO.out,HE.out];exact HUK.out,HKK.out⟩
  have h0z:¬(hi:Int)<=(k1:Int):=by omega
  have v2:IntKind.i64.wrap ((k1:Int)+1)=(k2:Int):=by simp[IntKind.wrap_i64];omega
  have v3:IntKind.i64.wrap ((F:Int)+(root:Int))=(p0:Int):=by simp[IntKind.wrap_i64];omega
  have v4:IntKind.i64.wrap ((F:Int)+(k1:Int))=(p1:Int):=by simp[IntKind.wrap_i64];omega
  have l0:(p0:Int) < (n:Int):=by omega
  have l1:(p1:Int) < (n:Int):=by omega
  have hp01:¬p0=p1:=by omega
  have hp02:¬p0=p2:=by omega
  have HP:=zh (show p0 < n/\p1 < n/\(k2 < hi->p2 < n)/\k1<=hi/\root < k1/\root < k2/\p2=p1+1 from by omega);obtain⟨x,hx⟩:=af (dk[p0]!)
  obtain⟨y,hy⟩:=af (dk[p1]!)
  obtain⟨z,hz⟩:=af (dk[p2]!)
  have HGO:=zh (show ∀ch,ch=(if k2 < hi/\y < z then k2 else k1)->dk[p0]! < dk[F+ch]!->siftDown ltInt hi F root dk=siftDown ltInt hi F ch (swp dk p0 (F+ch))from fun ch hc hl=>by
   have:=qm (hi:=hi) (F:=F) (root:=root) (ch:=ch) dk (by omega) (by rw[hc,hy,hz,hp1,hp2,hk1,hk2]) (by rw[<-hp0];exact hl);rw[<-hp0]at this;exact this)
  have HST:=zh (show ∀ch,ch=(if k2 < hi/\y < z then k2 else k1)->¬dk[p0]! < dk[F+ch]!->siftDown ltInt hi F root dk=dk from fun ch hc hl=>
   lZ (hi:=hi) (F:=F) (root:=root) (ch:=ch) dk (by omega) (by rw[hc,hy,hz,hp1,hp2,hk1,hk2]) (by rw[<-hp0];exact hl))
  have HPP:=zh (And.intro hp1 hp2);have HXYZ:=zh (And.intro hx (And.intro hy hz));have c0:wr.cell? ⟨B,p0,none⟩=some (.int .u64 x):=by rw[hx];exact HUK.out.cell HP.out.1
  have c1:wr.cell? ⟨B,p1,none⟩=some (.int .u64 y):=by rw[hy];exact HUK.out.cell HP.out.2.1
  clear hk1 hk2 hp0 hp1 hp2 hx hy hz;by_cases h2:k2 < hi
  ·have h2z:(k2:Int) < (hi:Int):=by omega
   have l2:(p2:Int) < (n:Int):=by have:=HP.out.2.2.1 h2;omega
   have v5:IntKind.i64.wrap ((p1:Int)+1)=(p2:Int):=by have:=HP.out;simp[IntKind.wrap_i64];omega
   have v6:IntKind.i64.wrap ((F:Int)+(k2:Int))=(p2:Int):=by have:=HPP.out;simp[IntKind.wrap_i64];omega
   have c2:wr.cell? ⟨B,p2,none⟩=some (.int .u64 z):=by rw[HXYZ.out.2.2];exact HUK.out.cell (HP.out.2.2.1 h2)
   by_cases hyz:y < z
   ·have dyz:decide (y < z)=true:=by simpa using hyz
    go_wp2;go_quiet (first | (go_at_call 163;refine Calls.quiet_of_same (al _ _ _)));go_wp2;clear c0 c1 c2;have HU2:=zh (show aA (wr.drewN nq) B n dk from HUK.out.drew nq);have HK2:=zh (show aa (fun k=>k=B) w (wr.drewN nq)from HKK.out.drewN nq);generalize wr.drewN nq=w2 at HU2 HK2 ⊢;have c0:w2.cell? ⟨B,p0,none⟩=some (.int .u64 x):=by rw[HXYZ.out.1];exact HU2.out.cell HP.out.1
    have cc:w2.cell? ⟨B,p2,none⟩=some (.int .u64 z):=by rw[HXYZ.out.2.2];exact HU2.out.cell (HP.out.2.2.1 h2)
    have f0:=HU2.out.fr p0;have fc:=HU2.out.fr p2;have HCH:=zh (show k2=(if k2 < hi/\y < z then k2 else k1)from by rw[if_pos ⟨h2,hyz⟩]);have HW:=zh (show dk[p0]! = x/\dk[F+k2]! = z/\F+k2=p2 from ⟨HXYZ.out.1.symm,by rw[<-HPP.out.2];exact HXYZ.out.2.2.symm,HPP.out.2.symm⟩);by_cases hxv:x < z
    ·have dxv:decide (x < z)=true:=by simpa using hxv
     have HG:=zh (show siftDown ltInt hi F root dk=siftDown ltInt hi F k2 (swp dk p0 p2)from by
      have:=HGO.out k2 HCH.out (by rw[HW.out.1,HW.out.2.1];exact hxv);rw[HW.out.2.2]at this;exact this)
     have HSW:=zh (show ∀q,aA (((w2.drewN q).setCell ⟨B,p0,none⟩ (.int .u64 z)).setCell ⟨B,p2,none⟩ (.int .u64 x)) B n (swp dk p0 p2)from fun q=>by
      rw[HXYZ.out.1,HXYZ.out.2.2];exact(HU2.out.drew q).swap HSK.out HP.out.1 (HP.out.2.2.1 h2))
     have HKW:=zh (show ∀q,aa (fun k=>k=B) w (((w2.drewN q).setCell ⟨B,p0,none⟩ (.int .u64 z)).setCell ⟨B,p2,none⟩ (.int .u64 x))from fun q=>((HK2.out.drewN q).setCell (p:=⟨B,p0,none⟩) rfl _).setCell (p:=⟨B,p2,none⟩) rfl _);go_quiet (first | (go_at_call 163;refine Calls.quiet_of_same (al _ _ _)));go_wp2;go_region
     all_goals go_wp2
     refine⟨⟨k2,swp dk p0 p2,rfl,by omega,by rw[size_swp];exact HSK.out,HSW.out _,HKW.out _,by rw[<-HG.out];exact HO.out⟩,by have:=HP.out;simp[intOf];omega⟩
    ·have HXV:=zh hxv;have dxv:decide (x < z)=false:=by simpa using hxv
     have HS:=zh (show siftDown ltInt hi F root dk=dk from HST.out k2 HCH.out (by rw[HW.out.1,HW.out.2.1];have:=HXV.out;omega));go_quiet (first | (go_at_call 163;refine Calls.quiet_of_same (al _ _ _)));go_wp2;refine bodyPost_ret (v:=.tuple #[]) (by simp[results,Tryz.results200,go_sem]) rfl ?_
     exact⟨rfl,by rw[<-HO.out,HS.out];exact HU2.out.drew nq,HK2.out.drewN nq⟩
   ·have HYZ:=zh hyz;have dyz:decide (y < z)=false:=by simpa using hyz
    go_wp2;go_quiet (first | (go_at_call 163;refine Calls.quiet_of_same (al _ _ _)));go_wp2;clear c0 c1 c2;have HU2:=zh (show aA (wr.drewN nq) B n dk from HUK.out.drew nq);have HK2:=zh (show aa (fun k=>k=B) w (wr.drewN nq)from HKK.out.drewN nq);generalize wr.drewN nq=w2 at HU2 HK2 ⊢;have c0:w2.cell? ⟨B,p0,none⟩=some (.int .u64 x):=by rw[HXYZ.out.1];exact HU2.out.cell HP.out.1
    have cc:w2.cell? ⟨B,p1,none⟩=some (.int .u64 y):=by rw[HXYZ.out.2.1];exact HU2.out.cell HP.out.2.1
    have f0:=HU2.out.fr p0;have fc:=HU2.out.fr p1;have HCH:=zh (show k1=(if k2 < hi/\y < z then k2 else k1)from by rw[if_neg (by have:=HYZ.out;omega)]);have HW:=zh (show dk[p0]! = x/\dk[F+k1]! = y/\F+k1=p1 from ⟨HXYZ.out.1.symm,by rw[<-HPP.out.1];exact HXYZ.out.2.1.symm,HPP.out.1.symm⟩);by_cases hxv:x < y
    ·have dxv:decide (x < y)=true:=by simpa using hxv
     have HG:=zh (show siftDown ltInt hi F root dk=siftDown ltInt hi F k1 (swp dk p0 p1)from by
      have:=HGO.out k1 HCH.out (by rw[HW.out.1,HW.out.2.1];exact hxv);rw[HW.out.2.2]at this;exact this)
     have HSW:=zh (show ∀q,aA (((w2.drewN q).setCell ⟨B,p0,none⟩ (.int .u64 y)).setCell ⟨B,p1,none⟩ (.int .u64 x)) B n (swp dk p0 p1)from fun q=>by
      rw[HXYZ.out.1,HXYZ.out.2.1];exact(HU2.out.drew q).swap HSK.out HP.out.1 HP.out.2.1)
     have HKW:=zh (show ∀q,aa (fun k=>k=B) w (((w2.drewN q).setCell ⟨B,p0,none⟩ (.int .u64 y)).setCell ⟨B,p1,none⟩ (.int .u64 x))from fun q=>((HK2.out.drewN q).setCell (p:=⟨B,p0,none⟩) rfl _).setCell (p:=⟨B,p1,none⟩) rfl _);go_quiet (first | (go_at_call 163;refine Calls.quiet_of_same (al _ _ _)));go_wp2;go_region
     all_goals go_wp2
     refine⟨⟨k1,swp dk p0 p1,rfl,by omega,by rw[size_swp];exact HSK.out,HSW.out _,HKW.out _,by rw[<-HG.out];exact HO.out⟩,by have:=HP.out;simp[intOf];omega⟩
    ·have HXV:=zh hxv;have dxv:decide (x < y)=false:=by simpa using hxv
     have HS:=zh (show siftDown ltInt hi F root dk=dk from HST.out k1 HCH.out (by rw[HW.out.1,HW.out.2.1];have:=HXV.out;omega));go_quiet (first | (go_at_call 163;refine Calls.quiet_of_same (al _ _ _)));go_wp2;refine bodyPost_ret (v:=.tuple #[]) (by simp[results,Tryz.results200,go_sem]) rfl ?_
     exact⟨rfl,by rw[<-HO.out,HS.out];exact HU2.out.drew nq,HK2.out.drewN nq⟩
  ·have h2z:¬(k2:Int) < (hi:Int):=by omega
   go_wp2;go_quiet (first | (go_at_call 163;refine Calls.quiet_of_same (al _ _ _)));go_wp2;clear c0 c1;have HU2:=zh (show aA (wr.drewN nq) B n dk from HUK.out.drew nq);have HK2:=zh (show aa (fun k=>k=B) w (wr.drewN nq)from HKK.out.drewN nq);generalize wr.drewN nq=w2 at HU2 HK2 ⊢;have c0:w2.cell? ⟨B,p0,none⟩=some (.int .u64 x):=by rw[HXYZ.out.1];exact HU2.out.cell HP.out.1
   have cc:w2.cell? ⟨B,p1,none⟩=some (.int .u64 y):=by rw[HXYZ.out.2.1];exact HU2.out.cell HP.out.2.1
   have f0:=HU2.out.fr p0;have fc:=HU2.out.fr p1;have HCH:=zh (show k1=(if k2 < hi/\y < z then k2 else k1)from by rw[if_neg (fun h=>h2 h.1)]);have HW:=zh (show dk[p0]! = x/\dk[F+k1]! = y/\F+k1=p1 from ⟨HXYZ.out.1.symm,by rw[<-HPP.out.1];exact HXYZ.out.2.1.symm,HPP.out.1.symm⟩);by_cases hxv:x < y
   ·have dxv:decide (x < y)=true:=by simpa using hxv
    have HG:=zh (show siftDown ltInt hi F root dk=siftDown ltInt hi F k1 (swp dk p0 p1)from by
     have:=HGO.out k1 HCH.out (by rw[HW.out.1,HW.out.2.1];exact hxv);rw[HW.out.2.2]at this;exact this)
    have HSW:=zh (show ∀q,aA (((w2.drewN q).setCell ⟨B,p0,none⟩ (.int .u64 y)).setCell ⟨B,p1,none⟩ (.int .u64 x)) B n (swp dk p0 p1)from fun q=>by
     rw[HXYZ.out.1,HXYZ.out.2.1];exact(HU2.out.drew q).swap HSK.out HP.out.1 HP.out.2.1)
    have HKW:=zh (show ∀q,aa (fun k=>k=B) w (((w2.drewN q).setCell ⟨B,p0,none⟩ (.int .u64 y)).setCell ⟨B,p1,none⟩ (.int .u64 x))from fun q=>((HK2.out.drewN q).setCell (p:=⟨B,p0,none⟩) rfl _).setCell (p:=⟨B,p1,none⟩) rfl _);go_quiet (first | (go_at_call 163;refine Calls.quiet_of_same (al _ _ _)));go_wp2;go_region
    all_goals go_wp2
    refine⟨⟨k1,swp dk p0 p1,rfl,by omega,by rw[size_swp];exact HSK.out,HSW.out _,HKW.out _,by rw[<-HG.out];exact HO.out⟩,by have:=HP.out;simp[intOf];omega⟩
   ·have HXV:=zh hxv;have dxv:decide (x < y)=false:=by simpa using hxv
    have HS:=zh (show siftDown ltInt hi F root dk=dk from HST.out k1 HCH.out (by rw[HW.out.1,HW.out.2.1];have:=HXV.out;omega));go_quiet (first | (go_at_call 163;refine Calls.quiet_of_same (al _ _ _)));go_wp2;refine bodyPost_ret (v:=.tuple #[]) (by simp[results,Tryz.results200,go_sem]) rfl ?_
    exact⟨rfl,by rw[<-HO.out,HS.out];exact HU2.out.drew nq,HK2.out.drewN nq⟩
theorem vO (B c n a b:Nat) (d:Array Int) (hd:d.size=n) (hn:n<=1000000) (hab:a < b) (hb:b<=n) (w:World) (h:aA w B n d) :
  Calls Tryz.prog 158 #[.slice (some ⟨B,0,none⟩) n c,.int .i64 a,.int .i64 b] w fun e w'=>e=.returned (.tuple #[])/\∃d',SortedIn ltInt a b d'/\SO w w' B n a b d d':=by
 have HU:=zh h;have HS:=zh (heapSort_holds (lt:=ltInt) swo_ltInt d a b (by omega) (by omega));have HSI:=zh (fun lo hi (dk:Array Int) (hs:dk.size=n) (hlo:lo<=hi) (hb:a+hi<=n) V hV=>qV B c n lo hi a dk hs hn hlo hb V hV);obtain⟨L,hL⟩:=af (b-a)
 obtain⟨L1,hL1⟩:=af (L-1)
 obtain⟨L2,hL2⟩:=af (L1 / 2)
 have v1:IntKind.i64.wrap ((b:Int)-(a:Int))=(L:Int):=by simp[IntKind.wrap_i64];omega
 have v2:IntKind.i64.wrap ((L:Int)-1)=(L1:Int):=by simp[IntKind.wrap_i64];omega
 have v3:Int.tdiv (L1:Int) 2=(L2:Int):=by rw[hL2];simp[Int.tdiv_eq_ediv]
 have v4:IntKind.i64.wrap (L2:Int)=(L2:Int):=by simp[IntKind.wrap_i64];omega
 have HSS:=zh (show ∀d',d'=heapPop ltInt a L (heapBuild ltInt L a (L2+1) d)->PermIn a b d d'/\SortedIn ltInt a b d' from fun d' e=>by
  have h1:=HS.out;unfold Sort.heapSort at h1;rw[<-hL,<-hL1,<-hL2]at h1;rw[e];exact h1)
 have HN:=zh (show n<=1000000/\a+L=b/\b<=n/\L2 < L/\L1+1=L/\d.size=n from by omega);clear h hn HS hL hL1 hL2 hd;go_enter Tryz.func158,Tryz.ntmps158;go_wp2;go_loopw [9] (fun vi wr=>∃(i:Int) (k:Nat) (dk:Array Int),vi=.int .i64 i/\i+1=(k:Int)/\k<=L2+1/\dk.size=n/\aA wr B n dk/\aa (fun k=>k=B) w wr/\heapBuild ltInt L a k dk=heapBuild ltInt L a (L2+1) d) (fun vi _=>(intOf vi+1).toNat)
 case atStart=>exact⟨L2,L2+1,d,rfl,by omega,Nat.le_refl _,HN.out.2.2.2.2.2,HU.out,aa.refl,rfl⟩
 case round=>
  obtain⟨i,k,dk,rfl,hik,hkL,hsk,hU,hK,hO⟩:=hrel;have HO:=zh hO;have HUK:=zh hU;have HKK:=zh hK;have HSK:=zh hsk;clear hO hU hK hsk;have hnn:=HN.out
  cases k with
  | succ j=>
   obtain rfl:i=(j:Int):=by omega
   have j0:(0:Int)<=(j:Int):=by omega
   have HC:=zh (HSI.out j L dk HSK.out (by omega) (by omega) _ HUK.out);have HSZ:=zh (show(siftDown ltInt L a j dk).size=n by rw[lh L a (L-j) j dk ao];exact HSK.out);have wj:IntKind.i64.wrap ((j:Int)-1)=(j:Int)-1:=by simp[IntKind.wrap_i64];omega
   have HJ:=zh (show j<=L2 by omega);clear hik hkL;go_wp2_with (go_at_call 200;refine(HC.out).mono ?_;rintro e w1 ⟨rfl,hU1,hK1⟩;have HU1:=zh hU1;have HK1:=zh (HKK.out.trans hK1 (fun _ _ e=>e));clear hU1 hK1);go_roundw
   case rel=>exact⟨(j:Int)-1,j,_,rfl,by omega,by have:=HJ.out;omega,HSZ.out,HU1.out,HK1.out,by rw[<-HO.out];rfl⟩
   case measure=>simp[intOf]<;>omega
  | zero=>
   obtain rfl:i = -1:=by omega
   have HOZ:=zh (show dk=heapBuild ltInt L a (L2+1) d from HO.out);clear HO hik hkL HSI;have j0:¬(0:Int)<=-1:=by omega
   have HSI:=zh (fun lo hi (dk:Array Int) (hs:dk.size=n) (hlo:lo<=hi) (hb:a+hi<=n) V hV=>qV B c n lo hi a dk hs HN.out.1 hlo hb V hV);go_wp2;go_loopw [10] (fun vi wr2=>∃(i:Int) (k:Nat) (dj:Array Int),vi=.int .i64 i/\i+1=(k:Int)/\k<=L/\dj.size=n/\aA wr2 B n dj/\aa (fun k=>k=B) w wr2/\heapPop ltInt a k dj=heapPop ltInt a L dk) (fun vi _=>(intOf vi+1).toNat)
   case atStart=>exact⟨L1,L,dk,rfl,by have:=HN.out;omega,Nat.le_refl _,HSK.out,HUK.out,HKK.out,rfl⟩
   case round=>
    obtain⟨i,k,dj,rfl,hik,hkL,hsk,hU,hK,hO⟩:=hrel;have HO2:=zh hO;have HUJ:=zh hU;have HKJ:=zh hK;have HSJ:=zh hsk;clear hO hU hK hsk HUK HKK;have hnn:=HN.out
    cases k with
    | zero=>
     obtain rfl:i = -1:=by omega
     have j0:¬(0:Int)<=-1:=by omega
     have HOE:=zh (HSS.out dj (by rw[<-HOZ.out];exact HO2.out));clear HSS;go_wp2;go_end0
     exact⟨rfl,dj,HOE.out.2,HOE.out.1,HUJ.out,HKJ.out⟩
    | succ j=>
     obtain rfl:i=(j:Int):=by omega
     have j0:(0:Int)<=(j:Int):=by omega
     have wj:IntKind.i64.wrap ((j:Int)-1)=(j:Int)-1:=by simp[IntKind.wrap_i64];omega
     have HJ:=zh (show j < L by omega);obtain⟨p,hp⟩:=af (a+j)
     have wp:IntKind.i64.wrap ((a:Int)+(j:Int))=(p:Int):=by simp[IntKind.wrap_i64];omega
     obtain⟨x,hx⟩:=af (dj[a]!)
     obtain⟨y,hy⟩:=af (dj[p]!)
     have hpn:p < n:=by omega
     have c0:wr.cell? ⟨B,a,none⟩=some (.int .u64 x):=by rw[hx];exact HUJ.out.cell (by omega)
     have c1:wr.cell? ⟨B,p,none⟩=some (.int .u64 y):=by rw[hy];exact HUJ.out.cell hpn
     have f0:=HUJ.out.fr a;have f1:=HUJ.out.fr p;have l0:(a:Int) < (n:Int):=by omega
     have l1:(p:Int) < (n:Int):=by omega
     have l2:(0:Int)<=(a:Int):=by omega
     have l3:(0:Int)<=(p:Int):=by omega
     have HSW:=zh (show ∀q,aA (((wr.drewN q).setCell ⟨B,a,none⟩ (.int .u64 y)).setCell ⟨B,p,none⟩ (.int .u64 x)) B n (swp dj a p) by rw[hx,hy];exact fun q=>(HUJ.out.drew q).swap HSJ.out (by omega) hpn);have HKW:=zh (show ∀q,aa (fun k=>k=B) w (((wr.drewN q).setCell ⟨B,a,none⟩ (.int .u64 y)).setCell ⟨B,p,none⟩ (.int .u64 x))from fun q=>((HKJ.out.drewN q).setCell (p:=⟨B,a,none⟩) rfl _).setCell (p:=⟨B,p,none⟩) rfl _);have HSZ0:=zh (show(swp dj a p).size=n by rw[size_swp];exact HSJ.out);have HSZ:=zh (show(siftDown ltInt j a 0 (swp dj a p)).size=n by rw[lh j a (j-0) 0 _ ao,size_swp];exact HSJ.out);have HRL:=zh (show heapPop ltInt a j (siftDown ltInt j a 0 (swp dj a p))=heapPop ltInt a L dk from by rw[<-HO2.out,hp];rfl);have HJ2:=zh (show a+j<=n by omega);have HPP:=zh hp;have HAP:=zh (show a=p\/¬a=p from by omega);clear hp hx hy hik hkL;rcases HAP.out with hap | hap
     focus
      subst hap;have exy:y=x:=by
       have e:=c1.symm.trans c0;simpa using e
      subst exy;clear c1 f1 l1 l3
     rotate_left
     focus
      have hap2:¬p=a:=fun e=>hap e.symm
     all_goals
      go_wp2;go_region
      all_goals go_wp2_with (go_at_call 200;refine(HSI.out 0 j _ HSZ0.out (Nat.zero_le _) HJ2.out _ (HSW.out 1)).mono ?_;rintro e w1 ⟨rfl,hU1,hK1⟩;have HU1:=zh hU1;have HK1:=zh ((HKW.out 1).trans hK1 (fun _ _ e=>e));clear hU1 hK1)
      all_goals go_roundw
      all_goals try (case rel=>exact⟨(j:Int)-1,j,_,rfl,by omega,by have:=HJ.out;omega,HSZ.out,HU1.out,HK1.out,HRL.out⟩)
      all_goals try (case measure=>simp[intOf]<;>omega)
end Go.Proofs.YtiiojpnckbglcaaGreat
