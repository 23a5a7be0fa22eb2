import Derived.Test.YtiiojpnckbglcaaGreatMDJs
set_option maxRecDepth 1000000
set_option maxHeartbeats 16000000
set_option linter.unusedVariables false
set_option linter.unusedSimpArgs false
namespace Go.Proofs.YtiiojpnckbglcaaGreat
open Go.RowKit Go.Sort
attribute [local go_sem ↓] Go.wp_at_zero Go.wp_at_succ
theorem xz (B c n a b:Nat) (d:Array Int) (hd:d.size=n) (hn:n<=1000000) (hab:a < b) (hb:b<=n) (w:World) (h:aA w B n d) :
  Calls Tryz.prog 161 #[.slice (some ⟨B,0,none⟩) n c,.int .i64 a,.int .i64 b] w fun e w'=>e=.returned (.tuple #[])/\∃d',SO w w' B n a b d d':=by
 have HU:=zh (SO.refl (a:=a) (b:=b) h);have HN:=zh (show n<=1000000/\a < b/\b<=n/\d.size=n from ⟨hn,hab,hb,hd⟩);have v1:IntKind.i64.wrap ((b:Int)-1)=((b-1:Nat):Int):=by simp[IntKind.wrap_i64];omega
 obtain⟨b1,hb1⟩:=af (b-1)
 rw[<-hb1]at v1;have HB1:=zh hb1;clear h hn hab hb hb1 hd;go_enter Tryz.func161,Tryz.ntmps161;go_wp2;go_loopw [6,7] (fun vi vj wr=>∃(i j:Nat) (dk:Array Int),vi=.int .i64 i/\vj=.int .i64 j/\a<=i/\j < b/\SO w wr B n a b d dk) (fun _ vj _=>(intOf vj).toNat)
 case atStart=>exact⟨a,b1,d,rfl,rfl,Nat.le_refl _,by have:=HN.out;have:=HB1.out;omega,HU.out⟩
 case round=>
  obtain⟨i,j,dk,rfl,rfl,hai,hjb,hS⟩:=hrel;have HS:=zh hS;clear hS;have hnn:=HN.out;by_cases hij:i < j
  ·have t1:(i:Int) < (j:Int):=by omega
   obtain⟨x,hx⟩:=af (dk[i]!)
   obtain⟨y,hy⟩:=af (dk[j]!)
   have c0:wr.cell? ⟨B,i,none⟩=some (.int .u64 x):=by rw[hx];exact HS.out.2.1.cell (by omega)
   have c1:wr.cell? ⟨B,j,none⟩=some (.int .u64 y):=by rw[hy];exact HS.out.2.1.cell (by omega)
   have f0:=HS.out.2.1.fr i;have f1:=HS.out.2.1.fr j;have l0:(i:Int) < (n:Int):=by omega
   have l1:(j:Int) < (n:Int):=by omega
   have hne:¬i=j:=by omega
   have hne2:¬j=i:=by omega
   have HSW:=zh (show ∀q,SO w (((wr.drewN q).setCell ⟨B,i,none⟩ (.int .u64 y)).setCell ⟨B,j,none⟩ (.int .u64 x)) B n a b d (swp dk i j)from fun q=>by
    rw[hx,hy];exact(HS.out.drew q).swap hnn.2.2.2 hai (by omega) (by omega) hjb (by omega))
   have wi:IntKind.i64.wrap ((i:Int)+1)=((i+1:Nat):Int):=by simp[IntKind.wrap_i64];omega
   have wj:IntKind.i64.wrap ((j:Int)-1)=((j-1:Nat):Int):=by simp[IntKind.wrap_i64];omega
   have HIJ:=zh hij;clear hx hy;go_wp2;go_region
   all_goals go_wp2
   refine⟨⟨i+1,j-1,swp dk i j,rfl,rfl,by omega,by omega,HSW.out _⟩,by have:=HIJ.out;simp[intOf]<;>omega⟩
  ·have t1:¬(i:Int) < (j:Int):=by omega
   go_wp2;go_end0
   exact⟨rfl,dk,HS.out⟩
theorem vJ (B c n a b p:Nat) (d:Array Int) (hd:d.size=n) (hn:n<=1000000) (hap:a<=p) (hpb:p < b) (hb:b<=n) (w:World) (h:aA w B n d) :
  Calls Tryz.prog 165 #[.slice (some ⟨B,0,none⟩) n c,.int .i64 a,.int .i64 b,.int .i64 p] w fun e w'=>∃(mid:Nat) (t:Bool) (d':Array Int),e=.returned (.tuple #[.int .i64 mid,.bool t])/\kM a b d mid d'/\aA w' B n d'/\aa (fun k=>k=B) w w':=by
 have HU:=zh h;obtain⟨x,hx⟩:=af (d[a]!)
 obtain⟨y,hy⟩:=af (d[p]!)
 have c0:w.cell? ⟨B,a,none⟩=some (.int .u64 x):=by rw[hx];exact HU.out.cell (by omega)
 have c1:w.cell? ⟨B,p,none⟩=some (.int .u64 y):=by rw[hy];exact HU.out.cell (by omega)
 have f0:=HU.out.fr a;have f1:=HU.out.fr p;have l0:(a:Int) < (n:Int):=by omega
 have l1:(p:Int) < (n:Int):=by omega
 have HN:=zh (show n<=1000000/\a < b/\b<=n/\d.size=n from ⟨hn,by omega,hb,hd⟩);have v1:IntKind.i64.wrap ((a:Int)+1)=((a+1:Nat):Int):=by simp[IntKind.wrap_i64];omega
 have v2:IntKind.i64.wrap ((b:Int)-1)=((b-1:Nat):Int):=by simp[IntKind.wrap_i64];omega
 obtain⟨a1,ha1⟩:=af (a+1)
 obtain⟨b1,hb1⟩:=af (b-1)
 rw[<-ha1]at v1;rw[<-hb1]at v2;obtain⟨d1,hd1⟩:=af (swp d a p)
 have HSW:=zh (show ∀q,aA (((w.drewN q).setCell ⟨B,a,none⟩ (.int .u64 y)).setCell ⟨B,p,none⟩ (.int .u64 x)) B n d1 from fun q=>by
  rw[hx,hy,hd1];exact(HU.out.drew q).swap hd (by omega) (by omega))
 have HKW:=zh (show ∀q,aa (fun k=>k=B) w (((w.drewN q).setCell ⟨B,a,none⟩ (.int .u64 y)).setCell ⟨B,p,none⟩ (.int .u64 x))from fun q=>(((aa.refl (F:=fun k=>k=B) (w:=w)).drewN q).setCell (p:=⟨B,a,none⟩) rfl _).setCell (p:=⟨B,p,none⟩) rfl _);have HP0:=zh (show PermIn a b d d1 from by rw[hd1];exact swp_permIn d a b a p ao (by omega) hap hpb (by omega));have HS1:=zh (show d1.size=n from by rw[hd1,size_swp,hd]);have HPS:=zh (show PI a b d1 a1 b1 d1 from by rw[ha1,hb1];exact PI.start (by omega) (by rw[hd1,size_swp];omega));obtain⟨v',hy'⟩:=cell?_setCell_some (w:=w) (p:=⟨B,a,none⟩) (x:=.int .u64 y) (q:=⟨B,p,none⟩) c1;clear h hx hy hd1 ha1 hb1 hn hap hpb hb hd;go_enter Tryz.func165,Tryz.ntmps165;go_wp2;go_region
 all_goals go_wp2
 obtain⟨pv,hpv⟩:=af (d1[a]!)
 have HPV:=zh hpv;obtain⟨i0,hi0⟩:=af a1
 obtain⟨j,hj⟩:=af b1
 rw[<-hi0,<-hj]at HPS ⊢;clear hpv hi0 hj c0 c1 f0 f1 hy' v' l0 l1 v1 v2;have HI0:=zh (show i0=i0 from rfl);go_loopw [10] (fun vi wr=>∃(i:Nat) (dk:Array Int),vi=.int .i64 i/\i0<=i/\PI a b d1 i j dk/\aA wr B n dk/\aa (fun k=>k=B) w wr) (fun vi _=>j+1-(intOf vi).toNat)
 case atStart=>exact⟨i0,d1,rfl,Nat.le_refl _,HPS.out,HSW.out _,HKW.out _⟩
 case round=>
  obtain⟨i,dk,rfl,hi0,hP,hU,hK⟩:=hrel;have HPK:=zh hP;have HUK:=zh hU;have HKK:=zh hK;have HPD:=zh (show pv=dk[a]! from by rw[hP.pv];exact HPV.out);have hnn:=HN.out;have h1:=hP.ai;have h2:=hP.ij;have h3:=hP.jb;clear hP hU hK;by_cases hij:i<=j
  ·have t1:(i:Int)<=(j:Int):=by omega
   have cpv:wr.cell? ⟨B,a,none⟩=some (.int .u64 pv):=by rw[HPD.out];exact HUK.out.cell (by omega)
   have fpv:=HUK.out.fr a;have la:(a:Int) < (n:Int):=by omega
   have li:(i:Int) < (n:Int):=by omega
   obtain⟨xi,hxi⟩:=af (dk[i]!)
   have cxi:wr.cell? ⟨B,i,none⟩=some (.int .u64 xi):=by rw[hxi];exact HUK.out.cell (by omega)
   have fxi:=HUK.out.fr i;have HXI:=zh hxi;clear hxi;by_cases hx:xi < pv
   ·have dx:decide (xi < pv)=true:=by simpa using hx
    have HUP:=zh (HPK.out.up hij (by rw[<-HXI.out,<-HPV.out];exact hx));obtain⟨ni,hni⟩:=af (i+1)
    rw[<-hni]at HUP;have wi:IntKind.i64.wrap ((i:Int)+1)=(ni:Int):=by simp[IntKind.wrap_i64];omega
    have HIJ:=zh (show i<=j/\i0<=i/\ni=i+1 from ⟨hij,hi0,hni⟩);clear hni;go_wp2;go_quiet (first | (go_at_call 163;refine Calls.quiet_of_same (al _ _ _)));go_wp2;go_roundw
    case rel=>exact⟨ni,dk,rfl,by have:=HIJ.out;omega,HUP.out,HUK.out.drew nq,HKK.out.drewN nq⟩
    case measure=>have:=HIJ.out;simp[intOf]<;>omega
   ·have dx:decide (xi < pv)=false:=by simpa using hx
    have HXX:=zh (show i<=j->d1[a]!<=dk[i]! from fun _=>by rw[<-HXI.out,<-HPV.out];omega);go_wp2;go_quiet (first | (go_at_call 163;refine Calls.quiet_of_same (al _ _ _)));go_wp2;clear cxi fxi cpv fpv la li dx hx t1;have HU2:=zh (HUK.out.drew nq);have HK2:=zh (HKK.out.drewN nq);generalize wr.drewN nq=w2 at HU2 HK2 ⊢;go_loopw [11] (fun vj wr=>∃(j2:Nat),vj=.int .i64 j2/\j2<=j/\PI a b d1 i j2 dk/\aA wr B n dk/\aa (fun k=>k=B) w wr) (fun vj _=>(intOf vj).toNat)
    case atStart=>exact⟨j,rfl,Nat.le_refl _,HPK.out,HU2.out,HK2.out⟩
    case round=>
     obtain⟨j2,rfl,hjj,hP2,hU,hK⟩:=hrel;have HPJ:=zh hP2;have HUJ:=zh hU;have HKJ:=zh hK;have HPS2:=zh (show dk.size=n from hP2.size.trans HS1.out);have hnn:=HN.out;have h1:=hP2.ai;have h2:=hP2.ij;have h3:=hP2.jb;have cpv:wr.cell? ⟨B,a,none⟩=some (.int .u64 pv):=by rw[HPD.out];exact HUJ.out.cell (by omega)
     have fpv:=HUJ.out.fr a;have la:(a:Int) < (n:Int):=by omega
     have lj:(j2:Int) < (n:Int):=by omega
     have lj0:(0:Int)<=(j2:Int):=by omega
     clear hP2 hU hK;obtain⟨vj,hvj⟩:=af (dk[j2]!)
     have cvj:wr.cell? ⟨B,j2,none⟩=some (.int .u64 vj):=by rw[hvj];exact HUJ.out.cell (by omega)
     have fvj:=HUJ.out.fr j2;have HVJ:=zh hvj;clear hvj;by_cases hij2:i<=j2
     ·have t1:(i:Int)<=(j2:Int):=by omega
      by_cases hy:vj < pv
      ·have HY:=zh hy;have dy:decide (vj < pv)=true:=by simpa using hy
       have hne:¬i=j2:=by intro e;have h1:=HXX.out (by omega);have h2:=HVJ.out;have h3:=HPV.out;subst e;omega
       have hne2:¬j2=i:=fun e=>hne e.symm;obtain⟨vi,hvi⟩:=af (dk[i]!)
       have cvi:wr.cell? ⟨B,i,none⟩=some (.int .u64 vi):=by rw[hvi];exact HUJ.out.cell (by omega)
       have fvi:=HUJ.out.fr i;have li:(i:Int) < (n:Int):=by omega
       have HSF:=zh (show ∀q,aA (((wr.drewN q).setCell ⟨B,i,none⟩ (.int .u64 vj)).setCell ⟨B,j2,none⟩ (.int .u64 vi)) B n (swp dk i j2)from fun q=>by
        rw[hvi,HVJ.out];exact(HUJ.out.drew q).swap HPS2.out (by omega) (by omega))
       have HKF:=zh (show ∀q,aa (fun k=>k=B) w (((wr.drewN q).setCell ⟨B,i,none⟩ (.int .u64 vj)).setCell ⟨B,j2,none⟩ (.int .u64 vi))from fun q=>((HKJ.out.drewN q).setCell (p:=⟨B,i,none⟩) rfl _).setCell (p:=⟨B,j2,none⟩) rfl _);have HPO:=zh (HPJ.out.swap hij2 (HXX.out (by omega)) (by rw[<-HVJ.out,<-HPV.out];exact hy));obtain⟨ni,hni⟩:=af (i+1)
       obtain⟨nj,hnj⟩:=af (j2-1)
       rw[<-hni,<-hnj]at HPO;have wi:IntKind.i64.wrap ((i:Int)+1)=(ni:Int):=by simp[IntKind.wrap_i64];omega
       have wj:IntKind.i64.wrap ((j2:Int)-1)=(nj:Int):=by simp[IntKind.wrap_i64];omega
       have HIJ:=zh (show a < i/\i<=j2/\i < j2/\j2<=j/\i0<=i/\ni=i+1/\nj=j2-1 from by omega);clear hni hnj;have t2:¬(j2:Int) < (i:Int):=by omega
       clear hvi;go_wp2;go_quiet (first | (go_at_call 163;refine Calls.quiet_of_same (al _ _ _)));go_wp2;go_region
       all_goals go_wp2
       have e65:decide (j2 < i)=false:=decide_eq_false (by omega);simp only[e65];clear e65;go_loopw [10,11] (fun vi vj wr=>∃(i j:Nat) (dk:Array Int),vi=.int .i64 i/\vj=.int .i64 j/\PI a b d1 i j dk/\aA wr B n dk/\aa (fun k=>k=B) w wr) (fun vi vj _=>(intOf vj+1-intOf vi).toNat)
       case atStart=>exact⟨ni,nj,swp dk i j2,rfl,rfl,HPO.out,HSF.out _,HKF.out _⟩
       case round=>
        clear HPO HSF HKF HPJ HUJ HKJ HVJ HXX HIJ HPK HPS2 HPD HU2 HK2 dy hy t1 t2 hne hne2 wi wj hij2 hjj h1 h2 h3;obtain⟨i0,j,dk,rfl,rfl,hP,hU,hK⟩:=hrel;have HPO:=zh hP;have HUO:=zh hU;have HKO:=zh hK;have hnn:=HN.out;clear hP hU hK;go_wp2;have HI0:=zh (show i0=i0 from rfl);go_loopw [10] (fun vi wr=>∃(i:Nat) (dk:Array Int),vi=.int .i64 i/\i0<=i/\PI a b d1 i j dk/\aA wr B n dk/\aa (fun k=>k=B) w wr) (fun vi _=>j+1-(intOf vi).toNat)
        case atStart=>exact⟨i0,dk,rfl,Nat.le_refl _,HPO.out,HUO.out,HKO.out⟩
        case round=>
         obtain⟨i,dk,rfl,hi0,hP,hU,hK⟩:=hrel;have HPK:=zh hP;have HUK:=zh hU;have HKK:=zh hK;have HPD:=zh (show pv=dk[a]! from by rw[hP.pv];exact HPV.out);have hnn:=HN.out;have h1:=hP.ai;have h2:=hP.ij;have h3:=hP.jb;clear hP hU hK;by_cases hij:i<=j
         ·have t1:(i:Int)<=(j:Int):=by omega
          have cpv:wr.cell? ⟨B,a,none⟩=some (.int .u64 pv):=by rw[HPD.out];exact HUK.out.cell (by omega)
          have fpv:=HUK.out.fr a;have la:(a:Int) < (n:Int):=by omega
          have li:(i:Int) < (n:Int):=by omega
          obtain⟨xi,hxi⟩:=af (dk[i]!)
          have cxi:wr.cell? ⟨B,i,none⟩=some (.int .u64 xi):=by rw[hxi];exact HUK.out.cell (by omega)
          have fxi:=HUK.out.fr i;have HXI:=zh hxi;clear hxi;by_cases hx:xi < pv
          ·have dx:decide (xi < pv)=true:=by simpa using hx
           have HUP:=zh (HPK.out.up hij (by rw[<-HXI.out,<-HPV.out];exact hx));obtain⟨ni,hni⟩:=af (i+1)
           rw[<-hni]at HUP;have wi:IntKind.i64.wrap ((i:Int)+1)=(ni:Int):=by simp[IntKind.wrap_i64];omega
           have HIJ:=zh (show i<=j/\i0<=i/\ni=i+1 from ⟨hij,hi0,hni⟩);clear hni;go_wp2;go_quiet (first | (go_at_call 163;refine Calls.quiet_of_same (al _ _ _)));go_wp2;go_roundw
           case rel=>exact⟨ni,dk,rfl,by have:=HIJ.out;omega,HUP.out,HUK.out.drew nq,HKK.out.drewN nq⟩
           case measure=>have:=HIJ.out;simp[intOf]<;>omega
          ·have dx:decide (xi < pv)=false:=by simpa using hx
           have HXX:=zh (show i<=j->d1[a]!<=dk[i]! from fun _=>by rw[<-HXI.out,<-HPV.out];omega);go_wp2;go_quiet (first | (go_at_call 163;refine Calls.quiet_of_same (al _ _ _)));go_wp2;clear cxi fxi cpv fpv la li dx hx t1;have HU2:=zh (HUK.out.drew nq);have HK2:=zh (HKK.out.drewN nq);generalize wr.drewN nq=w2 at HU2 HK2 ⊢;go_loopw [11] (fun vj wr=>∃(j2:Nat),vj=.int .i64 j2/\j2<=j/\PI a b d1 i j2 dk/\aA wr B n dk/\aa (fun k=>k=B) w wr) (fun vj _=>(intOf vj).toNat)
           case atStart=>exact⟨j,rfl,Nat.le_refl _,HPK.out,HU2.out,HK2.out⟩
           case round=>
            obtain⟨j2,rfl,hjj,hP2,hU,hK⟩:=hrel;have HPJ:=zh hP2;have HUJ:=zh hU;have HKJ:=zh hK;have HPS2:=zh (show dk.size=n from hP2.size.trans HS1.out);have hnn:=HN.out;have h1:=hP2.ai;have h2:=hP2.ij;have h3:=hP2.jb;have cpv:wr.cell? ⟨B,a,none⟩=some (.int .u64 pv):=by rw[HPD.out];exact HUJ.out.cell (by omega)
            have fpv:=HUJ.out.fr a;have la:(a:Int) < (n:Int):=by omega
            have lj:(j2:Int) < (n:Int):=by omega
            have lj0:(0:Int)<=(j2:Int):=by omega
            clear hP2 hU hK;obtain⟨vj,hvj⟩:=af (dk[j2]!)
            have cvj:wr.cell? ⟨B,j2,none⟩=some (.int .u64 vj):=by rw[hvj];exact HUJ.out.cell (by omega)
            have fvj:=HUJ.out.fr j2;have HVJ:=zh hvj;clear hvj;by_cases hij2:i<=j2
            ·have t1:(i:Int)<=(j2:Int):=by omega
             by_cases hy:vj < pv
             ·have HY:=zh hy;have dy:decide (vj < pv)=true:=by simpa using hy
              have hne:¬i=j2:=by intro e;have h1:=HXX.out (by omega);have h2:=HVJ.out;have h3:=HPV.out;subst e;omega
              have hne2:¬j2=i:=fun e=>hne e.symm;obtain⟨vi,hvi⟩:=af (dk[i]!)
              have cvi:wr.cell? ⟨B,i,none⟩=some (.int .u64 vi):=by rw[hvi];exact HUJ.out.cell (by omega)
              have fvi:=HUJ.out.fr i;have li:(i:Int) < (n:Int):=by omega
              have HSF:=zh (show ∀q,aA (((wr.drewN q).setCell ⟨B,i,none⟩ (.int .u64 vj)).setCell ⟨B,j2,none⟩ (.int .u64 vi)) B n (swp dk i j2)from fun q=>by
               rw[hvi,HVJ.out];exact(HUJ.out.drew q).swap HPS2.out (by omega) (by omega))
              have HKF:=zh (show ∀q,aa (fun k=>k=B) w (((wr.drewN q).setCell ⟨B,i,none⟩ (.int .u64 vj)).setCell ⟨B,j2,none⟩ (.int .u64 vi))from fun q=>((HKJ.out.drewN q).setCell (p:=⟨B,i,none⟩) rfl _).setCell (p:=⟨B,j2,none⟩) rfl _);have HPO:=zh (HPJ.out.swap hij2 (HXX.out (by omega)) (by rw[<-HVJ.out,<-HPV.out];exact hy));obtain⟨ni,hni⟩:=af (i+1)
              obtain⟨nj,hnj⟩:=af (j2-1)
              rw[<-hni,<-hnj]at HPO;have wi:IntKind.i64.wrap ((i:Int)+1)=(ni:Int):=by simp[IntKind.wrap_i64];omega
              have wj:IntKind.i64.wrap ((j2:Int)-1)=(nj:Int):=by simp[IntKind.wrap_i64];omega
              have HIJ:=zh (show a < i/\i<=j2/\i < j2/\j2<=j/\i0<=i/\ni=i+1/\nj=j2-1 from by omega);clear hni hnj;have t2:¬(j2:Int) < (i:Int):=by omega
              clear hvi;go_wp2;go_quiet (first | (go_at_call 163;refine Calls.quiet_of_same (al _ _ _)));go_wp2;go_region
              all_goals go_wp2
              refine⟨⟨ni,nj,swp dk i j2,rfl,rfl,HPO.out,HSF.out _,HKF.out _⟩,by have:=HIJ.out;simp[intOf]<;>omega⟩
             ·have dy:decide (vj < pv)=false:=by simpa using hy
              have HDN:=zh (HPJ.out.down hij2 (by rw[<-HVJ.out,<-HPV.out];omega));obtain⟨nj,hnj⟩:=af (j2-1)
              rw[<-hnj]at HDN;have wj:IntKind.i64.wrap ((j2:Int)-1)=(nj:Int):=by simp[IntKind.wrap_i64];omega
              have HIJ:=zh (show a < i/\i<=j2/\j2<=j/\nj=j2-1 from by omega);clear hnj;go_wp2;go_quiet (first | (go_at_call 163;refine Calls.quiet_of_same (al _ _ _)));go_wp2;go_roundw
              case rel=>exact⟨nj,rfl,by have:=HIJ.out;omega,HDN.out,HUJ.out.drew nq,HKJ.out.drewN nq⟩
              case measure=>have:=HIJ.out;simp[intOf]<;>omega
            ·have t1:¬(i:Int)<=(j2:Int):=by omega
             have HPO:=zh (HPJ.out.done (by omega) HP0.out);have t2:(j2:Int) < (i:Int):=by omega
             go_wp2;go_quiet (first | (go_at_call 163;refine Calls.quiet_of_same (al _ _ _)));go_wp2;have HU3:=zh (HUJ.out.drew nq);have HK3:=zh (HKJ.out.drewN nq);generalize wr.drewN nq=w3 at HU3 HK3 ⊢;clear cpv fpv cvj fvj;have cpv:w3.cell? ⟨B,a,none⟩=some (.int .u64 pv):=by rw[HPD.out];exact HU3.out.cell (by omega)
             have cvj:w3.cell? ⟨B,j2,none⟩=some (.int .u64 vj):=by rw[HVJ.out];exact HU3.out.cell (by omega)
             have fpv:=HU3.out.fr a;have fvj:=HU3.out.fr j2;have HSF:=zh (show ∀q,aA (((w3.drewN q).setCell ⟨B,j2,none⟩ (.int .u64 pv)).setCell ⟨B,a,none⟩ (.int .u64 vj)) B n (swp dk j2 a)from fun q=>by
              rw[HPD.out,HVJ.out];exact(HU3.out.drew q).swap HPS2.out (by omega) (by omega))
             have HKF:=zh (show ∀q,aa (fun k=>k=B) w (((w3.drewN q).setCell ⟨B,j2,none⟩ (.int .u64 pv)).setCell ⟨B,a,none⟩ (.int .u64 vj))from fun q=>((HK3.out.drewN q).setCell (p:=⟨B,j2,none⟩) rfl _).setCell (p:=⟨B,a,none⟩) rfl _);obtain⟨v',hy'⟩:=cell?_setCell_some (w:=w3) (p:=⟨B,j2,none⟩) (x:=.int .u64 pv) (q:=⟨B,a,none⟩) cpv;go_region
             all_goals go_wp2
             go_ret2
             exact⟨j2,false,swp dk j2 a,rfl,HPO.out,HSF.out _,HKF.out _⟩
         ·have t1:¬(i:Int)<=(j:Int):=by omega
          have HXX:=zh (show i<=j->d1[a]!<=dk[i]! from fun h=>absurd h hij);go_wp2;go_quiet (first | (go_at_call 163;refine Calls.quiet_of_same (al _ _ _)));go_wp2;clear t1;have HU2:=zh (HUK.out.drew nq);have HK2:=zh (HKK.out.drewN nq);generalize wr.drewN nq=w2 at HU2 HK2 ⊢;go_loopw [11] (fun vj wr=>∃(j2:Nat),vj=.int .i64 j2/\j2<=j/\PI a b d1 i j2 dk/\aA wr B n dk/\aa (fun k=>k=B) w wr) (fun vj _=>(intOf vj).toNat)
          case atStart=>exact⟨j,rfl,Nat.le_refl _,HPK.out,HU2.out,HK2.out⟩
          case round=>
           obtain⟨j2,rfl,hjj,hP2,hU,hK⟩:=hrel;have HPJ:=zh hP2;have HUJ:=zh hU;have HKJ:=zh hK;have HPS2:=zh (show dk.size=n from hP2.size.trans HS1.out);have hnn:=HN.out;have h1:=hP2.ai;have h2:=hP2.ij;have h3:=hP2.jb;have cpv:wr.cell? ⟨B,a,none⟩=some (.int .u64 pv):=by rw[HPD.out];exact HUJ.out.cell (by omega)
           have fpv:=HUJ.out.fr a;have la:(a:Int) < (n:Int):=by omega
           have lj:(j2:Int) < (n:Int):=by omega
           have lj0:(0:Int)<=(j2:Int):=by omega
           clear hP2 hU hK;obtain⟨vj,hvj⟩:=af (dk[j2]!)
           have cvj:wr.cell? ⟨B,j2,none⟩=some (.int .u64 vj):=by rw[hvj];exact HUJ.out.cell (by omega)
           have fvj:=HUJ.out.fr j2;have HVJ:=zh hvj;clear hvj;by_cases hij2:i<=j2
           ·exact absurd (ba hij2 hjj) hij
           ·have t1:¬(i:Int)<=(j2:Int):=by omega
            have HPO:=zh (HPJ.out.done (by omega) HP0.out);have t2:(j2:Int) < (i:Int):=by omega
            go_wp2;go_quiet (first | (go_at_call 163;refine Calls.quiet_of_same (al _ _ _)));go_wp2;have HU3:=zh (HUJ.out.drew nq);have HK3:=zh (HKJ.out.drewN nq);generalize wr.drewN nq=w3 at HU3 HK3 ⊢;clear cpv fpv cvj fvj;have cpv:w3.cell? ⟨B,a,none⟩=some (.int .u64 pv):=by rw[HPD.out];exact HU3.out.cell (by omega)
            have cvj:w3.cell? ⟨B,j2,none⟩=some (.int .u64 vj):=by rw[HVJ.out];exact HU3.out.cell (by omega)
            have fpv:=HU3.out.fr a;have fvj:=HU3.out.fr j2;have HSF:=zh (show ∀q,aA (((w3.drewN q).setCell ⟨B,j2,none⟩ (.int .u64 pv)).setCell ⟨B,a,none⟩ (.int .u64 vj)) B n (swp dk j2 a)from fun q=>by
             rw[HPD.out,HVJ.out];exact(HU3.out.drew q).swap HPS2.out (by omega) (by omega))
            have HKF:=zh (show ∀q,aa (fun k=>k=B) w (((w3.drewN q).setCell ⟨B,j2,none⟩ (.int .u64 pv)).setCell ⟨B,a,none⟩ (.int .u64 vj))from fun q=>((HK3.out.drewN q).setCell (p:=⟨B,j2,none⟩) rfl _).setCell (p:=⟨B,a,none⟩) rfl _);obtain⟨v',hy'⟩:=cell?_setCell_some (w:=w3) (p:=⟨B,j2,none⟩) (x:=.int .u64 pv) (q:=⟨B,a,none⟩) cpv;go_region
            all_goals go_wp2
            go_ret2
            exact⟨j2,false,swp dk j2 a,rfl,HPO.out,HSF.out _,HKF.out _⟩
      ·have dy:decide (vj < pv)=false:=by simpa using hy
       have HDN:=zh (HPJ.out.down hij2 (by rw[<-HVJ.out,<-HPV.out];omega));obtain⟨nj,hnj⟩:=af (j2-1)
       rw[<-hnj]at HDN;have wj:IntKind.i64.wrap ((j2:Int)-1)=(nj:Int):=by simp[IntKind.wrap_i64];omega
       have HIJ:=zh (show a < i/\i<=j2/\j2<=j/\nj=j2-1 from by omega);clear hnj;go_wp2;go_quiet (first | (go_at_call 163;refine Calls.quiet_of_same (al _ _ _)));go_wp2;go_roundw
       case rel=>exact⟨nj,rfl,by have:=HIJ.out;omega,HDN.out,HUJ.out.drew nq,HKJ.out.drewN nq⟩
       case measure=>have:=HIJ.out;simp[intOf]<;>omega
     ·have t1:¬(i:Int)<=(j2:Int):=by omega
      have HPO:=zh (HPJ.out.done (by omega) HP0.out);have t2:(j2:Int) < (i:Int):=by omega
      go_wp2;go_quiet (first | (go_at_call 163;refine Calls.quiet_of_same (al _ _ _)));go_wp2;have HU3:=zh (HUJ.out.drew nq);have HK3:=zh (HKJ.out.drewN nq);generalize wr.drewN nq=w3 at HU3 HK3 ⊢;clear cpv fpv cvj fvj;have cpv:w3.cell? ⟨B,a,none⟩=some (.int .u64 pv):=by rw[HPD.out];exact HU3.out.cell (by omega)
      have cvj:w3.cell? ⟨B,j2,none⟩=some (.int .u64 vj):=by rw[HVJ.out];exact HU3.out.cell (by omega)
      have fpv:=HU3.out.fr a;have fvj:=HU3.out.fr j2;have HSF:=zh (show ∀q,aA (((w3.drewN q).setCell ⟨B,j2,none⟩ (.int .u64 pv)).setCell ⟨B,a,none⟩ (.int .u64 vj)) B n (swp dk j2 a)from fun q=>by
       rw[HPD.out,HVJ.out];exact(HU3.out.drew q).swap HPS2.out (by omega) (by omega))
      have HKF:=zh (show ∀q,aa (fun k=>k=B) w (((w3.drewN q).setCell ⟨B,j2,none⟩ (.int .u64 pv)).setCell ⟨B,a,none⟩ (.int .u64 vj))from fun q=>((HK3.out.drewN q).setCell (p:=⟨B,j2,none⟩) rfl _).setCell (p:=⟨B,a,none⟩) rfl _);obtain⟨v',hy'⟩:=cell?_setCell_some (w:=w3) (p:=⟨B,j2,none⟩) (x:=.int .u64 pv) (q:=⟨B,a,none⟩) cpv;go_region
      all_goals go_wp2
      go_ret2
      exact⟨j2,true,swp dk j2 a,rfl,HPO.out,HSF.out _,HKF.out _⟩
  ·have t1:¬(i:Int)<=(j:Int):=by omega
   have HXX:=zh (show i<=j->d1[a]!<=dk[i]! from fun h=>absurd h hij);go_wp2;go_quiet (first | (go_at_call 163;refine Calls.quiet_of_same (al _ _ _)));go_wp2;clear t1;have HU2:=zh (HUK.out.drew nq);have HK2:=zh (HKK.out.drewN nq);generalize wr.drewN nq=w2 at HU2 HK2 ⊢;go_loopw [11] (fun vj wr=>∃(j2:Nat),vj=.int .i64 j2/\j2<=j/\PI a b d1 i j2 dk/\aA wr B n dk/\aa (fun k=>k=B) w wr) (fun vj _=>(intOf vj).toNat)
   case atStart=>exact⟨j,rfl,Nat.le_refl _,HPK.out,HU2.out,HK2.out⟩
   case round=>
    obtain⟨j2,rfl,hjj,hP2,hU,hK⟩:=hrel;have HPJ:=zh hP2;have HUJ:=zh hU;have HKJ:=zh hK;have HPS2:=zh (show dk.size=n from hP2.size.trans HS1.out);have hnn:=HN.out;have h1:=hP2.ai;have h2:=hP2.ij;have h3:=hP2.jb;have cpv:wr.cell? ⟨B,a,none⟩=some (.int .u64 pv):=by rw[HPD.out];exact HUJ.out.cell (by omega)
    have fpv:=HUJ.out.fr a;have la:(a:Int) < (n:Int):=by omega
    have lj:(j2:Int) < (n:Int):=by omega
    have lj0:(0:Int)<=(j2:Int):=by omega
    clear hP2 hU hK;obtain⟨vj,hvj⟩:=af (dk[j2]!)
    have cvj:wr.cell? ⟨B,j2,none⟩=some (.int .u64 vj):=by rw[hvj];exact HUJ.out.cell (by omega)
    have fvj:=HUJ.out.fr j2;have HVJ:=zh hvj;clear hvj;by_cases hij2:i<=j2
    ·exact absurd (ba hij2 hjj) hij
    ·have t1:¬(i:Int)<=(j2:Int):=by omega
     have HPO:=zh (HPJ.out.done (by omega) HP0.out);have t2:(j2:Int) < (i:Int):=by omega
     go_wp2;go_quiet (first | (go_at_call 163;refine Calls.quiet_of_same (al _ _ _)));go_wp2;have HU3:=zh (HUJ.out.drew nq);have HK3:=zh (HKJ.out.drewN nq);generalize wr.drewN nq=w3 at HU3 HK3 ⊢;clear cpv fpv cvj fvj;have cpv:w3.cell? ⟨B,a,none⟩=some (.int .u64 pv):=by rw[HPD.out];exact HU3.out.cell (by omega)
     have cvj:w3.cell? ⟨B,j2,none⟩=some (.int .u64 vj):=by rw[HVJ.out];exact HU3.out.cell (by omega)
     have fpv:=HU3.out.fr a;have fvj:=HU3.out.fr j2;have HSF:=zh (show ∀q,aA (((w3.drewN q).setCell ⟨B,j2,none⟩ (.int .u64 pv)).setCell ⟨B,a,none⟩ (.int .u64 vj)) B n (swp dk j2 a)from fun q=>by
      rw[HPD.out,HVJ.out];exact(HU3.out.drew q).swap HPS2.out (by omega) (by omega))
     have HKF:=zh (show ∀q,aa (fun k=>k=B) w (((w3.drewN q).setCell ⟨B,j2,none⟩ (.int .u64 pv)).setCell ⟨B,a,none⟩ (.int .u64 vj))from fun q=>((HK3.out.drewN q).setCell (p:=⟨B,j2,none⟩) rfl _).setCell (p:=⟨B,a,none⟩) rfl _);obtain⟨v',hy'⟩:=cell?_setCell_some (w:=w3) (p:=⟨B,j2,none⟩) (x:=.int .u64 pv) (q:=⟨B,a,none⟩) cpv;go_region
     all_goals go_wp2
     go_ret2
     exact⟨j2,true,swp dk j2 a,rfl,HPO.out,HSF.out _,HKF.out _⟩
def uR (w:World) (B n:Nat) (d:Array Int) (sb:Nat):Prop:=sb ≠ B/\aA w B n d/\∃s:Int,ae w sb 3 #[.int .i64 s]
def qH (w w':World) (B n:Nat) (d:Array Int) (sb:Nat):Prop:=uR w' B n d sb/\aa (fun k=>k=sb) w w'
theorem qH.trans {w w1 w2:World} {B n:Nat} {d:Array Int} {sb:Nat} (h:qH w w1 B n d sb) (h2:qH w1 w2 B n d sb):qH w w2 B n d sb:=⟨h2.1,h.2.trans h2.2 (fun _ _ e=>e)⟩
theorem qH.refl {w:World} {B n:Nat} {d:Array Int} {sb:Nat} (h:uR w B n d sb) (q:Nat):qH w (w.drewN q) B n d sb:=⟨⟨h.1,h.2.1.drew q,h.2.2⟩,aa.refl.drewN q⟩
theorem qH.set {w:World} {B n:Nat} {d:Array Int} {sb:Nat} (h:uR w B n d sb) (q:Nat) (s:Int):qH w ((w.drewN q).setCell ⟨sb,0,none⟩ (.int .i64 s)) B n d sb:=by
 have hk:aa (fun k=>k=sb) w ((w.drewN q).setCell ⟨sb,0,none⟩ (.int .i64 s)):=((aa.refl (F:=fun k=>k=sb) (w:=w)).drewN q).setCell (p:=⟨sb,0,none⟩) rfl _;obtain⟨h1,h2,s0,h3⟩:=h;refine⟨⟨h1,h2.keepF hk (fun e=>h1 e.symm),s,?_⟩,hk⟩;have:=(show ae (w.drewN q) sb 3 #[.int .i64 s0]from h3).set_ 0 (.int .i64 s);simpa using this
theorem sp (B c n lo hi a b sb:Nat) (d:Array Int) (hn:n<=1000000) (hh:hi<=n) (ha:lo<=a/\a < hi) (hb:lo<=b/\b < hi) (w:World) (h:uR w B n d sb) :
  Calls Tryz.prog 222 #[.slice (some ⟨B,0,none⟩) n c,.int .i64 a,.int .i64 b,.pointer (some ⟨sb,0,none⟩)] w fun e w'=>∃x y:Nat,e=.returned (.tuple #[.int .i64 x,.int .i64 y])/\(lo<=x/\x < hi)/\(lo<=y/\y < hi)/\qH w w' B n d sb:=by
 have HW:=zh h;have HR:=zh (And.intro ha hb);obtain⟨h1,h2,s,h3⟩:=h;obtain⟨x,hx⟩:=af (d[b]!)
 obtain⟨y,hy⟩:=af (d[a]!)
 have c0:w.cell? ⟨B,b,none⟩=some (.int .u64 x):=by rw[hx];exact h2.cell (by omega)
 have c1:w.cell? ⟨B,a,none⟩=some (.int .u64 y):=by rw[hy];exact h2.cell (by omega)
 have l0:(b:Int) < (n:Int):=by omega
 have l1:(a:Int) < (n:Int):=by omega
 have cs:=h3.cell 0;have fs:=h3.frozen 0;simp at cs;clear hx hy h2 h3 h1 ha hb hh hn;by_cases hxy:x < y
 ·have dxy:decide (x < y)=true:=by simpa using hxy
  go_enter Tryz.func222,Tryz.ntmps222;go_wp2;go_quiet (first | (go_at_call 163;refine Calls.quiet_of_same (al _ _ _)));go_wp2;go_ret2
  exact⟨b,a,rfl,HR.out.2,HR.out.1,qH.set HW.out _ _⟩
 ·have dxy:decide (x < y)=false:=by simpa using hxy
  go_enter Tryz.func222,Tryz.ntmps222;go_wp2;go_quiet (first | (go_at_call 163;refine Calls.quiet_of_same (al _ _ _)));go_wp2;go_ret2
  exact⟨a,b,rfl,HR.out.1,HR.out.2,qH.refl HW.out _⟩
theorem lM (B cc n lo hi a b c sb:Nat) (d:Array Int) (hn:n<=1000000) (hh:hi<=n) (ha:lo<=a/\a < hi) (hb:lo<=b/\b < hi) (hc:lo<=c/\c < hi) (w:World) (h:uR w B n d sb) :
  Calls Tryz.prog 204 #[.slice (some ⟨B,0,none⟩) n cc,.int .i64 a,.int .i64 b,.int .i64 c,.pointer (some ⟨sb,0,none⟩)] w fun e w'=>∃x:Nat,e=.returned (.int .i64 x)/\(lo<=x/\x < hi)/\qH w w' B n d sb:=by
 have HO:=zh (fun a b (ha:lo<=a/\a < hi) (hb:lo<=b/\b < hi) V (hV:uR V B n d sb)=>sp B cc n lo hi a b sb d hn hh ha hb V hV);have HW:=zh h;have HA:=zh ha;have HB:=zh hb;have HC:=zh hc;clear h hn hh ha hb hc;go_enter Tryz.func204,Tryz.ntmps204;go_upto_region 2 with (go_at_call 222;refine(HO.out _ _ HA.out HB.out _ HW.out).mono ?_;rintro e w1 ⟨x1,y1,rfl,hx,hy,hs⟩;have X1:=zh hx;have Y1:=zh hy;have S1:=zh hs;clear hx hy hs)
 go_upto_region 3 with (go_at_call 222;refine(HO.out _ _ Y1.out HC.out _ S1.out.1).mono ?_;rintro e w2 ⟨x2,y2,rfl,hx,hy,hs⟩;have X2:=zh hx;have Y2:=zh hy;have S2:=zh (S1.out.trans hs);clear hx hy hs)
 go_wp2_with (go_at_call 222;refine(HO.out _ _ X1.out X2.out _ S2.out.1).mono ?_;rintro e w3 ⟨x3,y3,rfl,hx,hy,hs⟩;have X3:=zh hx;have Y3:=zh hy;have S3:=zh (S2.out.trans hs);clear hx hy hs);go_ret
 exact⟨y3,rfl,Y3.out,S3.out⟩
theorem xP (B cc n lo hi a sb:Nat) (d:Array Int) (hn:n<=1000000) (hh:hi<=n) (ha:lo+1<=a/\a+1 < hi) (w:World) (h:uR w B n d sb) :
  Calls Tryz.prog 203 #[.slice (some ⟨B,0,none⟩) n cc,.int .i64 a,.pointer (some ⟨sb,0,none⟩)] w fun e w'=>∃x:Nat,e=.returned (.int .i64 x)/\(lo<=x/\x < hi)/\qH w w' B n d sb:=by
 obtain⟨p,hp⟩:=af (a-1)
 obtain⟨q,hq⟩:=af (a+1)
 have v1:IntKind.i64.wrap ((a:Int)-1)=(p:Int):=by simp[IntKind.wrap_i64];omega
 have v2:IntKind.i64.wrap ((a:Int)+1)=(q:Int):=by simp[IntKind.wrap_i64];omega
 have HO:=zh (lM B cc n lo hi p a q sb d hn hh (by omega) (by omega) (by omega) w h);clear h hn hh ha hp hq;go_enter Tryz.func203,Tryz.ntmps203;go_wp2_with (go_at_call 204;refine(HO.out).mono ?_;rintro e w1 ⟨x1,rfl,hx,hs⟩;have X1:=zh hx;have S1:=zh hs;clear hx hs);go_ret
 exact⟨x1,rfl,X1.out,S1.out⟩
theorem tP (B cc n a b:Nat) (d:Array Int) (hn:n<=1000000) (hab:a+12 < b) (hb:b<=n) (w:World) (h:aA w B n d) :
  Calls Tryz.prog 160 #[.slice (some ⟨B,0,none⟩) n cc,.int .i64 a,.int .i64 b] w fun e w'=>∃(x:Nat) (t:Int),e=.returned (.tuple #[.int .i64 x,.int .i64 t])/\(a<=x/\x < b)/\Below w.heap.size w w':=by
 obtain⟨L,hL⟩:=af (b-a)
 obtain⟨q,hq⟩:=af (L / 4)
 obtain⟨i,hi⟩:=af (a+q)
 obtain⟨j,hj⟩:=af (a+q*2)
 obtain⟨k,hk⟩:=af (a+q*3)
 have v1:IntKind.i64.wrap ((b:Int)-(a:Int))=(L:Int):=by simp[IntKind.wrap_i64];omega
 have v2:Int.tdiv (L:Int) 4=(q:Int):=by rw[hq];simp[Int.tdiv_eq_ediv]
 have v3:IntKind.i64.wrap (q:Int)=(q:Int):=by simp[IntKind.wrap_i64];omega
 have v4:IntKind.i64.wrap ((q:Int)*2)=(q:Int)*2:=by simp[IntKind.wrap_i64];omega
 have v5:IntKind.i64.wrap ((q:Int)*3)=(q:Int)*3:=by simp[IntKind.wrap_i64];omega
 have v6:IntKind.i64.wrap ((a:Int)+(q:Int))=(i:Int):=by simp[IntKind.wrap_i64];omega
 have v7:IntKind.i64.wrap ((a:Int)+(q:Int)*2)=(j:Int):=by simp[IntKind.wrap_i64];omega
 have v8:IntKind.i64.wrap ((a:Int)+(q:Int)*3)=(k:Int):=by simp[IntKind.wrap_i64];omega
 have l8:(8:Int)<=(L:Int):=by omega
 obtain⟨sb,hsb⟩:=af w.heap.size
 have HB0:=zh (show B < w.heap.size by obtain⟨cs,hB,_⟩:=h;exact hB.lt);have HM:=zh (fun x y z (hx:a<=x/\x < b) (hy:a<=y/\y < b) (hz:a<=z/\z < b) V (hV:uR V B n d sb)=>lM B cc n a b x y z sb d hn hb hx hy hz V hV);have HA:=zh (fun x (hx:a+1<=x/\x+1 < b) V (hV:uR V B n d sb)=>xP B cc n a b x sb d hn hb hx V hV);have HI:=zh (show a+1<=i/\i+1 < b from by omega);have HJ:=zh (show a+1<=j/\j+1 < b from by omega);have HK:=zh (show a+1<=k/\k+1 < b from by omega);have HU:=zh h;have HSB:=zh hsb;clear h hn hb hL hq hi hj hk hab hsb;go_enter Tryz.func160,Tryz.ntmps160;go_upto_region 3 with (fail)
 refine ag (fun V=>uR V B n d sb/\Below w.heap.size w V) ?_ ?_
 ·have hbw:Below w.heap.size w (w.alloc (.cells #[.int .i64 0] 3)):=(Below.refl _ w).alloc ao _;refine⟨⟨by have:=HB0.out;have:=HSB.out;omega,HU.out.keepF (aa.of_below (F:=fun _=>False) hbw) (fun e=>e),0,by rw[HSB.out];exact ae.new _ _ _⟩,hbw⟩
 rintro w1 ⟨hS,hbw⟩;rw[<-HSB.out];have S0:=zh hS;have B0:=zh hbw;clear hS hbw;have HE:=zh (show ∀V,aa (fun k=>k=sb) w1 V->Below w.heap.size w V from fun V hk=>aa.below B0.out hk (fun k e=>by rw[e,HSB.out];exact Nat.le_refl _) B0.out.size);have S1:=zh (qH.refl S0.out 0);by_cases h50:50<=L
 focus
  have l50:(50:Int)<=(L:Int):=by omega
  go_upto_region 9 with (go_at_call 203;refine(HA.out _ HI.out _ S1.out.1).mono ?_;rintro e w2 ⟨x2,rfl,hx,hs⟩;have X2:=zh hx;have S2:=zh (S1.out.trans hs);clear hx hs)
  go_upto_region 10 with (go_at_call 203;refine(HA.out _ HJ.out _ S2.out.1).mono ?_;rintro e w3 ⟨x3,rfl,hx,hs⟩;have X3:=zh hx;have S3:=zh (S2.out.trans hs);clear hx hs)
  go_upto_region 11 with (go_at_call 203;refine(HA.out _ HK.out _ S3.out.1).mono ?_;rintro e w4 ⟨x4,rfl,hx,hs⟩;have X4:=zh hx;have S4:=zh (S3.out.trans hs);clear hx hs)
  go_upto_region 12 with (go_at_call 204;refine(HM.out _ _ _ X2.out X3.out X4.out _ S4.out.1).mono ?_;rintro e w9 ⟨x9,rfl,hx,hs⟩;have X9:=zh hx;have S9:=zh (S4.out.trans hs);clear hx hs)
 rotate_left
 focus
  have l50:¬(50:Int)<=(L:Int):=by omega
  go_upto_region 12 with (go_at_call 204;refine(HM.out _ _ _ (by have:=HI.out;omega) (by have:=HJ.out;omega) (by have:=HK.out;omega) _ S1.out.1).mono ?_;rintro e w9 ⟨x9,rfl,hx,hs⟩;have X9:=zh hx;have S9:=zh (S1.out.trans hs);clear hx hs)
 all_goals
  obtain⟨_,_,s,hs⟩:=S9.out.1;have cs:=hs.cell 0;simp at cs;clear hs;by_cases s0:s=0
  ·subst s0;go_wp2;go_ret2
   exact⟨x9,_,rfl,X9.out,HE.out _ S9.out.2⟩
  by_cases s12:s=12
  ·subst s12;go_wp2;go_ret2
   exact⟨x9,_,rfl,X9.out,HE.out _ S9.out.2⟩
  go_wp2;go_ret2
  exact⟨x9,_,rfl,X9.out,HE.out _ S9.out.2⟩
theorem vT {d:Array Int} {b k:Nat} (h:k < b) (hl:¬d[k]! < d[k-1]!):scanSorted ltInt d b k=scanSorted ltInt d b (k+1):=by
 rw[scanSorted,if_pos];simp[h,ltInt];omega
theorem oA {d:Array Int} {b k:Nat} (h:¬k < b\/d[k]! < d[k-1]!):scanSorted ltInt d b k=k:=by
 rw[scanSorted,if_neg];simp[ltInt];intro h1;omega
theorem uh {d:Array Int} {j:Nat} (h:1<=j) (hl:d[j]! < d[j-1]!):shiftDown ltInt j d=shiftDown ltInt (j-1) (swp d j (j-1)):=by
 obtain⟨k,rfl⟩:∃k,j=k+1:=⟨j-1,by omega⟩
 simp only[Nat.add_sub_cancel]at hl ⊢;rw[shiftDown,if_neg];simp[ltInt];omega
theorem jD {d:Array Int} {j:Nat} (h:¬1<=j\/¬d[j]! < d[j-1]!):shiftDown ltInt j d=d:=by
 cases j with
 | zero=>rfl
 | succ k=>
  simp only[Nat.add_sub_cancel]at h;rw[shiftDown,if_pos];simp[ltInt];omega
theorem pE {d:Array Int} {b j:Nat} (h:j < b) (hl:d[j]! < d[j-1]!):shiftUp ltInt b j d=shiftUp ltInt b (j+1) (swp d j (j-1)):=by
 rw[shiftUp,if_pos h,if_neg];simp[ltInt];omega
theorem gk {d:Array Int} {b j:Nat} (h:¬j < b\/¬d[j]! < d[j-1]!):shiftUp ltInt b j d=d:=by
 rw[shiftUp];by_cases hj:j < b
 ·rw[if_pos hj,if_pos];simp[ltInt];omega
 ·rw[if_neg hj]
def ys (w:World) (B n a b:Nat) (d:Array Int) (e:Ending) (w':World):Prop:=∃(t:Bool) (d':Array Int),e=.returned (.bool t)/\SO w w' B n a b d d'/\(t=true->SortedIn ltInt a b d')
theorem wL (B c n a b:Nat) (d:Array Int) (hd:d.size=n) (hn:n<=1000000) (hab:a < b) (hb:b<=n) (hl:eE a b d) (w:World) (h:aA w B n d) :
  Calls Tryz.prog 162 #[.slice (some ⟨B,0,none⟩) n c,.int .i64 a,.int .i64 b] w (ys w B n a b d):=by
 have HU:=zh h;obtain⟨R,hR⟩:=af (partialIns ltInt a b 5 (a+1) d)
 have HS:=zh (show PermIn a b d R.1/\(R.2=true->SortedIn ltInt a b R.1)from by rw[hR];exact partialInsertionSort_holds (lt:=ltInt) swo_ltInt d a b hab (by omega) hl.below);have HRR:=zh hR;have HN:=zh (show n<=1000000/\a < b/\b<=n/\d.size=n from ⟨hn,hab,hb,hd⟩);obtain⟨a1,ha1⟩:=af (a+1)
 have v1:IntKind.i64.wrap ((a:Int)+1)=(a1:Int):=by simp[IntKind.wrap_i64];omega
 obtain⟨L,hL⟩:=af (b-a)
 have v2:IntKind.i64.wrap ((b:Int)-(a:Int))=(L:Int):=by simp[IntKind.wrap_i64];omega
 have HL:=zh (And.intro hL ha1);have HOUT:=zh (show ∀(t:Bool) (dk:Array Int) (V:World),R=(dk,t)->aA V B n dk->aa (fun k=>k=B) w V->ys w B n a b d (.returned (.bool t)) V from fun t dk V e hU hK=>by
  have:=HS.out;rw[e]at this
  exact⟨t,dk,rfl,⟨this.1,hU,hK⟩,this.2⟩)
 clear h hR hn hab hb hd ha1 hL hl;go_enter Tryz.func162,Tryz.ntmps162;go_wp2;go_loopw [7,8] (fun vi vj wr=>∃(i st s:Nat) (dk:Array Int),vi=.int .i64 i/\vj=.int .i64 st/\st+s=5/\a < i/\i<=b/\dk.size=n/\aA wr B n dk/\aa (fun k=>k=B) w wr/\partialIns ltInt a b s i dk=R) (fun _ vj _=>(5-intOf vj).toNat)
 case atStart=>exact⟨a1,0,5,d,rfl,rfl,rfl,by have:=HL.out;omega,by have:=HL.out;have:=HN.out;omega,HN.out.2.2.2,HU.out,aa.refl,by rw[HL.out.2];exact HRR.out.symm⟩
 case round=>
  obtain⟨i,st,s,dk,rfl,rfl,hst,hai,hib,hsk,hU,hK,hO⟩:=hrel;have HO:=zh hO;have HUK:=zh hU;have HKK:=zh hK;have HSK:=zh hsk;have hnn:=HN.out;clear hO hU hK hsk
  cases s with
  | zero=>
   have t1:¬(st:Int) < 5:=by omega
   have HX:=zh (show R=(dk,false)from HO.out.symm);clear hst;go_wp2;go_ret
   exact HOUT.out false dk _ HX.out HUK.out HKK.out
  | succ s=>
   have t1:(st:Int) < 5:=by omega
   have HST:=zh (show st+1+s=5 from by omega);have HP:=zh (partialIns_succ (lt:=ltInt) a b s i dk);obtain⟨st1,hst1⟩:=af (st+1)
   have v3:IntKind.i64.wrap ((st:Int)+1)=(st1:Int):=by simp[IntKind.wrap_i64];omega
   have HST1:=zh hst1;clear hst hst1;go_wp2;go_loopw [7] (fun vi wr=>∃k:Nat,vi=.int .i64 k/\a < k/\k<=b/\aA wr B n dk/\aa (fun k=>k=B) w wr/\scanSorted ltInt dk b k=scanSorted ltInt dk b i) (fun vi _=>b-(intOf vi).toNat)
   case atStart=>exact⟨i,rfl,hai,hib,HUK.out,HKK.out,rfl⟩
   case round=>
    obtain⟨k,rfl,hak,hkb,hU,hK,hE⟩:=hrel;have HE:=zh hE;have HUJ:=zh hU;have HKJ:=zh hK;clear hE hU hK HUK HKK hai hib;by_cases hlt:k < b;rotate_left
    ·have hkb2:k=b:=by omega
     have HX:=zh (show R=(dk,true)from by
      rw[<-HO.out,HP.out,<-HE.out,oA (Or.inl hlt),if_pos hkb2])
     subst hkb2;have t2:¬(k:Int) < (k:Int):=by omega
     go_wp2;go_quiet (first | (go_at_call 163;refine Calls.quiet_of_same (al _ _ _)));go_wp2;go_ret
     exact HOUT.out true dk _ HX.out (HUJ.out.drew nq) (HKJ.out.drewN nq)
    obtain⟨k1,hk1⟩:=af (k-1)
    have v4:IntKind.i64.wrap ((k:Int)-1)=(k1:Int):=by simp[IntKind.wrap_i64];omega
    have HK1:=zh (show k=k1+1 from by omega);obtain⟨x,hx⟩:=af (dk[k]!)
    obtain⟨y,hy⟩:=af (dk[k1]!)
    have c0:wr.cell? ⟨B,k,none⟩=some (.int .u64 x):=by rw[hx];exact HUJ.out.cell (by omega)
    have c1:wr.cell? ⟨B,k1,none⟩=some (.int .u64 y):=by rw[hy];exact HUJ.out.cell (by omega)
    have f0:=HUJ.out.fr k;have f1:=HUJ.out.fr k1;have l0:(k:Int) < (n:Int):=by omega
    have l1:(k1:Int) < (n:Int):=by omega
    have t2:(k:Int) < (b:Int):=by omega
    have HLT:=zh hlt;by_cases hxy:x < y;rotate_left
    ·have dxy:decide (x < y)=false:=by simpa using hxy
     have HG:=zh (show scanSorted ltInt dk b (k+1)=scanSorted ltInt dk b i from by rw[<-HE.out];exact(vT hlt (by rw[<-hx,<-hk1,<-hy];exact hxy)).symm);obtain⟨nk,hnk⟩:=af (k+1)
     rw[<-hnk]at HG;have v5:IntKind.i64.wrap ((k:Int)+1)=(nk:Int):=by simp[IntKind.wrap_i64];omega
     have HNK:=zh (show nk=k+1/\a < nk/\nk<=b from by omega);clear hk1 hx hy hnk hlt;go_wp2;go_quiet (first | (go_at_call 163;refine Calls.quiet_of_same (al _ _ _)));go_wp2;go_roundw
     case rel=>exact⟨nk,rfl,HNK.out.2.1,HNK.out.2.2,HUJ.out.drew nq,HKJ.out.drewN nq,HG.out⟩
     case measure=>have:=HNK.out;simp[intOf]<;>omega
    have dxy:decide (x < y)=true:=by simpa using hxy
    have HKE:=zh (show scanSorted ltInt dk b i=k from by rw[<-HE.out];exact oA (Or.inr (by rw[<-hx,<-hk1,<-hy];exact hxy)));have t3:¬(k:Int)=(b:Int):=by omega
    have t3n:¬k=b:=by omega
    have HXY:=zh (And.intro hx hy);have HAK:=zh (And.intro hak hkb);clear hk1 hx hy;by_cases h50:L < 50
    ·have t4:(L:Int) < 50:=by omega
     have HX:=zh (show R=(dk,false)from by
      rw[<-HO.out,HP.out,HKE.out,if_neg t3n,if_pos (by have:=HL.out.1;omega)])
     go_wp2;go_quiet (first | (go_at_call 163;refine Calls.quiet_of_same (al _ _ _)));go_wp2;go_ret
     exact HOUT.out false dk _ HX.out (HUJ.out.drew nq) (HKJ.out.drewN nq)
    have t4:¬(L:Int) < 50:=by omega
    have HX:=zh (show partialIns ltInt a b s k (fixUp ltInt b k (fixDown ltInt a k (swp dk k k1)))=R from by
     rw[<-HO.out,HP.out,HKE.out,if_neg t3n,if_neg (by have:=HL.out.1;omega),show k-1=k1 by have:=HK1.out;omega])
    go_wp2;go_quiet (first | (go_at_call 163;refine Calls.quiet_of_same (al _ _ _)));go_wp2;have HU3:=zh (HUJ.out.drew nq);have HK3:=zh (HKJ.out.drewN nq);generalize wr.drewN nq=w3 at HU3 HK3 ⊢;clear c0 c1 f0 f1;have c0:w3.cell? ⟨B,k,none⟩=some (.int .u64 x):=by rw[HXY.out.1];exact HU3.out.cell (by omega)
    have c1:w3.cell? ⟨B,k1,none⟩=some (.int .u64 y):=by rw[HXY.out.2];exact HU3.out.cell (by omega)
    have f0:=HU3.out.fr k;have f1:=HU3.out.fr k1;have hne:¬k=k1:=by have:=HK1.out;omega
    have hne2:¬k1=k:=fun e=>hne e.symm;have HUS:=zh (show ∀q,aA (((w3.drewN q).setCell ⟨B,k,none⟩ (.int .u64 y)).setCell ⟨B,k1,none⟩ (.int .u64 x)) B n (swp dk k k1)from fun q=>by
     rw[HXY.out.1,HXY.out.2];exact(HU3.out.drew q).swap HSK.out (by omega) (by omega))
    have HKS:=zh (show ∀q,aa (fun k=>k=B) w (((w3.drewN q).setCell ⟨B,k,none⟩ (.int .u64 y)).setCell ⟨B,k1,none⟩ (.int .u64 x))from fun q=>((HK3.out.drewN q).setCell (p:=⟨B,k,none⟩) rfl _).setCell (p:=⟨B,k1,none⟩) rfl _);obtain⟨ka,hka⟩:=af (k-a)
    obtain⟨bk,hbk⟩:=af (b-k)
    obtain⟨k2,hk2⟩:=af (k+1)
    have v5:IntKind.i64.wrap ((k:Int)-(a:Int))=(ka:Int):=by simp[IntKind.wrap_i64];omega
    have v6:IntKind.i64.wrap ((b:Int)-(k:Int))=(bk:Int):=by simp[IntKind.wrap_i64];omega
    have v7:IntKind.i64.wrap ((k:Int)+1)=(k2:Int):=by simp[IntKind.wrap_i64];omega
    have HKA:=zh (show ka=k-a/\bk=b-k/\k2=k+1 from ⟨hka,hbk,hk2⟩);have HSW:=zh (show(swp dk k k1).size=n from by rw[size_swp];exact HSK.out);obtain⟨d1,hd1⟩:=af (swp dk k k1)
    rw[<-hd1]at HX HUS HSW;clear hka hbk hk2 hd1 hak hkb hlt dxy hxy t2;by_cases hbk:2<=bk;rotate_left
    ·have t6:¬(2:Int)<=(bk:Int):=by omega
     have HBK:=zh (show ¬2<=bk from hbk);clear hbk;by_cases hka:2<=ka;rotate_left
     ·have t5:¬(2:Int)<=(ka:Int):=by omega
      have HAA:=zh (show ¬2<=ka from hka);clear hka;go_region
      all_goals go_wp2
      have HY:=zh (show partialIns ltInt a b s k (fixUp ltInt b k d1)=R from by
        have:=HX.out;unfold fixDown at this;rw[if_neg (by have:=HKA.out;have:=HAA.out;omega)]at this
        exact this)
      have HZ:=zh (show partialIns ltInt a b s k d1=R from by
       have:=HY.out;unfold fixUp at this;rw[if_neg (by have:=HKA.out;have:=HBK.out;omega)]at this
       exact this)
      refine⟨⟨k,st1,s,d1,rfl,rfl,by have:=HST.out;have:=HST1.out;omega,HAK.out.1,HAK.out.2,HSW.out,(HUS.out _),(HKS.out _),HZ.out⟩,by have:=HST.out;have:=HST1.out;simp[intOf]<;>omega⟩
     ·have t5:(2:Int)<=(ka:Int):=by omega
      have HAA:=zh (show 2<=ka from hka);have HV:=zh (show partialIns ltInt a b s k (fixUp ltInt b k (shiftDown ltInt k1 d1))=R from by
       have:=HX.out;unfold fixDown at this;rw[if_pos (by have:=HKA.out;have:=HAA.out;omega),show k-1=k1 by have:=HK1.out;omega]at this
       exact this)
      clear hka;go_region
      all_goals go_wp2
      go_loopw [9] (fun vj wr=>∃(j:Nat) (dj:Array Int),vj=.int .i64 j/\j<=k1/\dj.size=n/\aA wr B n dj/\aa (fun k=>k=B) w wr/\shiftDown ltInt j dj=shiftDown ltInt k1 d1) (fun vj _=>(intOf vj).toNat)
      case atStart=>exact⟨k1,d1,rfl,Nat.le_refl _,HSW.out,HUS.out _,HKS.out _,rfl⟩
      case round=>
       obtain⟨j,dj,rfl,hkj,hsj,hU,hK,hE⟩:=hrel;have HUD:=zh hU;have HKD:=zh hK;have HSD:=zh hsj;have HED:=zh hE;have hnn:=HN.out;clear hU hK hsj hE;have HK2:=zh (show j < b/\j<=k1 from by have:=HK1.out;have:=HAK.out;omega);by_cases hj0:1<=j;rotate_left
       ·have u1:¬(1:Int)<=(j:Int):=by omega
        have HED2:=zh (show dj=shiftDown ltInt k1 d1 from by rw[<-HED.out,jD (Or.inl hj0)]);clear hj0;go_wp2;have HY:=zh (show partialIns ltInt a b s k (fixUp ltInt b k dj)=R from by rw[HED2.out];exact HV.out);have HZ:=zh (show partialIns ltInt a b s k dj=R from by
         have:=HY.out;unfold fixUp at this;rw[if_neg (by have:=HKA.out;have:=HBK.out;omega)]at this
         exact this)
        refine⟨⟨k,st1,s,dj,rfl,rfl,by have:=HST.out;have:=HST1.out;omega,HAK.out.1,HAK.out.2,HSD.out,HUD.out,HKD.out,HZ.out⟩,by have:=HST.out;have:=HST1.out;simp[intOf]<;>omega⟩
       have u1:(1:Int)<=(j:Int):=by omega
       obtain⟨j1,hj1⟩:=af (j-1)
       have v8:IntKind.i64.wrap ((j:Int)-1)=(j1:Int):=by simp[IntKind.wrap_i64];omega
       have HJ1:=zh (show j=j1+1 from by omega);obtain⟨x2,hx⟩:∃x,x=dj[j]!:=⟨_,rfl⟩
       obtain⟨y2,hy⟩:∃y,y=dj[j1]!:=⟨_,rfl⟩
       have e0:wr.cell? ⟨B,j,none⟩=some (.int .u64 x2):=by rw[hx];exact HUD.out.cell (by have:=HK2.out;omega)
       have e1:wr.cell? ⟨B,j1,none⟩=some (.int .u64 y2):=by rw[hy];exact HUD.out.cell (by have:=HK2.out;omega)
       have g0:=HUD.out.fr j;have g1:=HUD.out.fr j1;have m0:(j:Int) < (n:Int):=by have:=HK2.out;omega
       have m1:(j1:Int) < (n:Int):=by have:=HK2.out;omega
       by_cases hxz:x2 < y2;rotate_left
       ·have dz:decide (x2 < y2)=false:=by simpa using hxz
        have HED2:=zh (show dj=shiftDown ltInt k1 d1 from by rw[<-HED.out,jD (Or.inr (by rw[<-hx,<-hj1,<-hy];exact hxz))]);clear hx hy hj1 hj0;go_wp2;go_quiet (first | (go_at_call 163;refine Calls.quiet_of_same (al _ _ _)));go_wp2;have HUD:=zh (HUD.out.drew nq);have HKD:=zh (HKD.out.drewN nq);generalize wr.drewN nq=w4 at HUD HKD ⊢;clear e0 e1 g0 g1 v8 dz hxz;have HY:=zh (show partialIns ltInt a b s k (fixUp ltInt b k dj)=R from by rw[HED2.out];exact HV.out);have HZ:=zh (show partialIns ltInt a b s k dj=R from by
         have:=HY.out;unfold fixUp at this;rw[if_neg (by have:=HKA.out;have:=HBK.out;omega)]at this
         exact this)
        refine⟨⟨k,st1,s,dj,rfl,rfl,by have:=HST.out;have:=HST1.out;omega,HAK.out.1,HAK.out.2,HSD.out,HUD.out,HKD.out,HZ.out⟩,by have:=HST.out;have:=HST1.out;simp[intOf]<;>omega⟩
       have dz:decide (x2 < y2)=true:=by simpa using hxz
       have HG:=zh (show shiftDown ltInt j1 (swp dj j j1)=shiftDown ltInt k1 d1 from by rw[<-HED.out,uh hj0 (by rw[<-hx,<-hj1,<-hy];exact hxz),<-hj1]);have hxn:¬j=j1:=by have:=HJ1.out;omega
       have hxn2:¬j1=j:=by have:=HJ1.out;omega
       have HUT:=zh (show ∀q,aA (((wr.drewN q).setCell ⟨B,j,none⟩ (.int .u64 y2)).setCell ⟨B,j1,none⟩ (.int .u64 x2)) B n (swp dj j j1)from fun q=>by
        rw[hx,hy];exact(HUD.out.drew q).swap HSD.out (by have:=HK2.out;omega) (by have:=HK2.out;omega))
       have HKT:=zh (show ∀q,aa (fun k=>k=B) w (((wr.drewN q).setCell ⟨B,j,none⟩ (.int .u64 y2)).setCell ⟨B,j1,none⟩ (.int .u64 x2))from fun q=>((HKD.out.drewN q).setCell (p:=⟨B,j,none⟩) rfl _).setCell (p:=⟨B,j1,none⟩) rfl _);clear hx hy hj1 hj0;go_wp2;go_quiet (first | (go_at_call 163;refine Calls.quiet_of_same (al _ _ _)));go_wp2;go_region
       all_goals go_wp2
       go_roundw
       case rel=>exact⟨j1,swp dj j j1,rfl,by have:=HJ1.out;have:=HK2.out;omega,by rw[size_swp];exact HSD.out,HUT.out _,HKT.out _,HG.out⟩
       case measure=>have:=HJ1.out;simp[intOf]<;>omega
    ·have t6 :  (2:Int)<=(bk:Int):=by omega
     have HBK:=zh (show  2<=bk from hbk);clear hbk;by_cases hka:2<=ka;rotate_left
     ·have t5:¬(2:Int)<=(ka:Int):=by omega
      have HAA:=zh (show ¬2<=ka from hka);clear hka;go_region
      all_goals go_wp2
      have HY:=zh (show partialIns ltInt a b s k (fixUp ltInt b k d1)=R from by
        have:=HX.out;unfold fixDown at this;rw[if_neg (by have:=HKA.out;have:=HAA.out;omega)]at this
        exact this)
      have HZ:=zh (show partialIns ltInt a b s k (shiftUp ltInt b k2 d1)=R from by
       have:=HY.out;unfold fixUp at this;rw[if_pos (by have:=HKA.out;have:=HBK.out;omega),show k+1=k2 by have:=HKA.out;omega]at this
       exact this)
      go_loopw [10] (fun vj wr=>∃(j:Nat) (du:Array Int),vj=.int .i64 j/\k2<=j/\du.size=n/\aA wr B n du/\aa (fun k=>k=B) w wr/\shiftUp ltInt b j du=shiftUp ltInt b k2 d1) (fun vj _=>b+1-(intOf vj).toNat)
      case atStart=>exact⟨k2,d1,rfl,Nat.le_refl _,HSW.out,(HUS.out _),(HKS.out _),rfl⟩
      case round=>
       obtain⟨j,du,rfl,hkj,hsj,hU,hK,hE⟩:=hrel;have HUD:=zh hU;have HKD:=zh hK;have HSD:=zh hsj;have HED:=zh hE;have hnn:=HN.out;clear hU hK hsj hE;have HK2:=zh (show a < j/\k2<=j from by have:=HKA.out;have:=HAK.out;omega);by_cases hjb:j < b;rotate_left
       ·have u1:¬(j:Int) < (b:Int):=by omega
        have HF:=zh (show partialIns ltInt a b s k du=R from by rw[<-HZ.out,<-HED.out,gk (Or.inl hjb)]);go_wp2;refine⟨⟨k,st1,s,du,rfl,rfl,by have:=HST.out;have:=HST1.out;omega,HAK.out.1,HAK.out.2,HSD.out,HUD.out,HKD.out,HF.out⟩,by have:=HST.out;have:=HST1.out;simp[intOf]<;>omega⟩
       have u1:(j:Int) < (b:Int):=by omega
       obtain⟨j1,hj1⟩:=af (j-1)
       obtain⟨jn,hjn⟩:=af (j+1)
       have v8:IntKind.i64.wrap ((j:Int)-1)=(j1:Int):=by have:=HK2.out;simp[IntKind.wrap_i64];omega
       have v9:IntKind.i64.wrap ((j:Int)+1)=(jn:Int):=by simp[IntKind.wrap_i64];omega
       have HJ1:=zh (show j=j1+1/\jn=j+1/\j < b from by have:=HK2.out;omega);obtain⟨x2,hx⟩:∃x,x=du[j]!:=⟨_,rfl⟩
       obtain⟨y2,hy⟩:∃y,y=du[j1]!:=⟨_,rfl⟩
       have e0:wr.cell? ⟨B,j,none⟩=some (.int .u64 x2):=by rw[hx];exact HUD.out.cell (by omega)
       have e1:wr.cell? ⟨B,j1,none⟩=some (.int .u64 y2):=by rw[hy];exact HUD.out.cell (by omega)
       have g0:=HUD.out.fr j;have g1:=HUD.out.fr j1;have m0:(j:Int) < (n:Int):=by omega
       have m1:(j1:Int) < (n:Int):=by omega
       by_cases hxz:x2 < y2;rotate_left
       ·have dz:decide (x2 < y2)=false:=by simpa using hxz
        have HF:=zh (show partialIns ltInt a b s k du=R from by rw[<-HZ.out,<-HED.out,gk (Or.inr (by rw[<-hx,<-hj1,<-hy];exact hxz))]);clear hx hy hj1 hjn hjb;go_wp2;go_quiet (first | (go_at_call 163;refine Calls.quiet_of_same (al _ _ _)));go_wp2;refine⟨⟨k,st1,s,du,rfl,rfl,by have:=HST.out;have:=HST1.out;omega,HAK.out.1,HAK.out.2,HSD.out,(HUD.out.drew nq),(HKD.out.drewN nq),HF.out⟩,by have:=HST.out;have:=HST1.out;simp[intOf]<;>omega⟩
       have dz:decide (x2 < y2)=true:=by simpa using hxz
       have HG:=zh (show shiftUp ltInt b jn (swp du j j1)=shiftUp ltInt b k2 d1 from by rw[<-HED.out,pE hjb (by rw[<-hx,<-hj1,<-hy];exact hxz),<-hj1,<-hjn]);have hxn:¬j=j1:=by have:=HJ1.out;omega
       have hxn2:¬j1=j:=by have:=HJ1.out;omega
       have HUT:=zh (show ∀q,aA (((wr.drewN q).setCell ⟨B,j,none⟩ (.int .u64 y2)).setCell ⟨B,j1,none⟩ (.int .u64 x2)) B n (swp du j j1)from fun q=>by
        rw[hx,hy];exact(HUD.out.drew q).swap HSD.out (by omega) (by omega))
       have HKT:=zh (show ∀q,aa (fun k=>k=B) w (((wr.drewN q).setCell ⟨B,j,none⟩ (.int .u64 y2)).setCell ⟨B,j1,none⟩ (.int .u64 x2))from fun q=>((HKD.out.drewN q).setCell (p:=⟨B,j,none⟩) rfl _).setCell (p:=⟨B,j1,none⟩) rfl _);clear hx hy hj1 hjn hjb;go_wp2;go_quiet (first | (go_at_call 163;refine Calls.quiet_of_same (al _ _ _)));go_wp2;go_region
       all_goals go_wp2
       go_roundw
       case rel=>exact⟨jn,swp du j j1,rfl,by have:=HJ1.out;have:=HK2.out;omega,by rw[size_swp];exact HSD.out,HUT.out _,HKT.out _,HG.out⟩
       case measure=>have:=HJ1.out;simp[intOf]<;>omega
     ·have t5:(2:Int)<=(ka:Int):=by omega
      have HAA:=zh (show 2<=ka from hka);have HV:=zh (show partialIns ltInt a b s k (fixUp ltInt b k (shiftDown ltInt k1 d1))=R from by
       have:=HX.out;unfold fixDown at this;rw[if_pos (by have:=HKA.out;have:=HAA.out;omega),show k-1=k1 by have:=HK1.out;omega]at this
       exact this)
      clear hka;go_region
      all_goals go_wp2
      go_loopw [9] (fun vj wr=>∃(j:Nat) (dj:Array Int),vj=.int .i64 j/\j<=k1/\dj.size=n/\aA wr B n dj/\aa (fun k=>k=B) w wr/\shiftDown ltInt j dj=shiftDown ltInt k1 d1) (fun vj _=>(intOf vj).toNat)
      case atStart=>exact⟨k1,d1,rfl,Nat.le_refl _,HSW.out,HUS.out _,HKS.out _,rfl⟩
      case round=>
       obtain⟨j,dj,rfl,hkj,hsj,hU,hK,hE⟩:=hrel;have HUD:=zh hU;have HKD:=zh hK;have HSD:=zh hsj;have HED:=zh hE;have hnn:=HN.out;clear hU hK hsj hE;have HK2:=zh (show j < b/\j<=k1 from by have:=HK1.out;have:=HAK.out;omega);by_cases hj0:1<=j;rotate_left
       ·have u1:¬(1:Int)<=(j:Int):=by omega
        have HED2:=zh (show dj=shiftDown ltInt k1 d1 from by rw[<-HED.out,jD (Or.inl hj0)]);clear hj0;go_wp2;have HY:=zh (show partialIns ltInt a b s k (fixUp ltInt b k dj)=R from by rw[HED2.out];exact HV.out);have HZ:=zh (show partialIns ltInt a b s k (shiftUp ltInt b k2 dj)=R from by
         have:=HY.out;unfold fixUp at this;rw[if_pos (by have:=HKA.out;have:=HBK.out;omega),show k+1=k2 by have:=HKA.out;omega]at this
         exact this)
        go_loopw [10] (fun vj wr=>∃(j:Nat) (du:Array Int),vj=.int .i64 j/\k2<=j/\du.size=n/\aA wr B n du/\aa (fun k=>k=B) w wr/\shiftUp ltInt b j du=shiftUp ltInt b k2 dj) (fun vj _=>b+1-(intOf vj).toNat)
        case atStart=>exact⟨k2,dj,rfl,Nat.le_refl _,HSD.out,HUD.out,HKD.out,rfl⟩
        case round=>
         obtain⟨j,du,rfl,hkj,hsj,hU,hK,hE⟩:=hrel;have HUD:=zh hU;have HKD:=zh hK;have HSD:=zh hsj;have HED:=zh hE;have hnn:=HN.out;clear hU hK hsj hE;have HK2:=zh (show a < j/\k2<=j from by have:=HKA.out;have:=HAK.out;omega);by_cases hjb:j < b;rotate_left
         ·have u1:¬(j:Int) < (b:Int):=by omega
          have HF:=zh (show partialIns ltInt a b s k du=R from by rw[<-HZ.out,<-HED.out,gk (Or.inl hjb)]);go_wp2;refine⟨⟨k,st1,s,du,rfl,rfl,by have:=HST.out;have:=HST1.out;omega,HAK.out.1,HAK.out.2,HSD.out,HUD.out,HKD.out,HF.out⟩,by have:=HST.out;have:=HST1.out;simp[intOf]<;>omega⟩
         have u1:(j:Int) < (b:Int):=by omega
         obtain⟨j1,hj1⟩:=af (j-1)
         obtain⟨jn,hjn⟩:=af (j+1)
         have v8:IntKind.i64.wrap ((j:Int)-1)=(j1:Int):=by have:=HK2.out;simp[IntKind.wrap_i64];omega
         have v9:IntKind.i64.wrap ((j:Int)+1)=(jn:Int):=by simp[IntKind.wrap_i64];omega
         have HJ1:=zh (show j=j1+1/\jn=j+1/\j < b from by have:=HK2.out;omega);obtain⟨x2,hx⟩:∃x,x=du[j]!:=⟨_,rfl⟩
         obtain⟨y2,hy⟩:∃y,y=du[j1]!:=⟨_,rfl⟩
         have e0:wr.cell? ⟨B,j,none⟩=some (.int .u64 x2):=by rw[hx];exact HUD.out.cell (by omega)
         have e1:wr.cell? ⟨B,j1,none⟩=some (.int .u64 y2):=by rw[hy];exact HUD.out.cell (by omega)
         have g0:=HUD.out.fr j;have g1:=HUD.out.fr j1;have m0:(j:Int) < (n:Int):=by omega
         have m1:(j1:Int) < (n:Int):=by omega
         by_cases hxz:x2 < y2;rotate_left
         ·have dz:decide (x2 < y2)=false:=by simpa using hxz
          have HF:=zh (show partialIns ltInt a b s k du=R from by rw[<-HZ.out,<-HED.out,gk (Or.inr (by rw[<-hx,<-hj1,<-hy];exact hxz))]);clear hx hy hj1 hjn hjb;go_wp2;go_quiet (first | (go_at_call 163;refine Calls.quiet_of_same (al _ _ _)));go_wp2;refine⟨⟨k,st1,s,du,rfl,rfl,by have:=HST.out;have:=HST1.out;omega,HAK.out.1,HAK.out.2,HSD.out,(HUD.out.drew nq),(HKD.out.drewN nq),HF.out⟩,by have:=HST.out;have:=HST1.out;simp[intOf]<;>omega⟩
         have dz:decide (x2 < y2)=true:=by simpa using hxz
         have HG:=zh (show shiftUp ltInt b jn (swp du j j1)=shiftUp ltInt b k2 dj from by rw[<-HED.out,pE hjb (by rw[<-hx,<-hj1,<-hy];exact hxz),<-hj1,<-hjn]);have hxn:¬j=j1:=by have:=HJ1.out;omega
         have hxn2:¬j1=j:=by have:=HJ1.out;omega
         have HUT:=zh (show ∀q,aA (((wr.drewN q).setCell ⟨B,j,none⟩ (.int .u64 y2)).setCell ⟨B,j1,none⟩ (.int .u64 x2)) B n (swp du j j1)from fun q=>by
          rw[hx,hy];exact(HUD.out.drew q).swap HSD.out (by omega) (by omega))
         have HKT:=zh (show ∀q,aa (fun k=>k=B) w (((wr.drewN q).setCell ⟨B,j,none⟩ (.int .u64 y2)).setCell ⟨B,j1,none⟩ (.int .u64 x2))from fun q=>((HKD.out.drewN q).setCell (p:=⟨B,j,none⟩) rfl _).setCell (p:=⟨B,j1,none⟩) rfl _);clear hx hy hj1 hjn hjb;go_wp2;go_quiet (first | (go_at_call 163;refine Calls.quiet_of_same (al _ _ _)));go_wp2;go_region
         all_goals go_wp2
         go_roundw
         case rel=>exact⟨jn,swp du j j1,rfl,by have:=HJ1.out;have:=HK2.out;omega,by rw[size_swp];exact HSD.out,HUT.out _,HKT.out _,HG.out⟩
         case measure=>have:=HJ1.out;simp[intOf]<;>omega
       have u1:(1:Int)<=(j:Int):=by omega
       obtain⟨j1,hj1⟩:=af (j-1)
       have v8:IntKind.i64.wrap ((j:Int)-1)=(j1:Int):=by simp[IntKind.wrap_i64];omega
       have HJ1:=zh (show j=j1+1 from by omega);obtain⟨x2,hx⟩:∃x,x=dj[j]!:=⟨_,rfl⟩
       obtain⟨y2,hy⟩:∃y,y=dj[j1]!:=⟨_,rfl⟩
       have e0:wr.cell? ⟨B,j,none⟩=some (.int .u64 x2):=by rw[hx];exact HUD.out.cell (by have:=HK2.out;omega)
       have e1:wr.cell? ⟨B,j1,none⟩=some (.int .u64 y2):=by rw[hy];exact HUD.out.cell (by have:=HK2.out;omega)
       have g0:=HUD.out.fr j;have g1:=HUD.out.fr j1;have m0:(j:Int) < (n:Int):=by have:=HK2.out;omega
       have m1:(j1:Int) < (n:Int):=by have:=HK2.out;omega
       by_cases hxz:x2 < y2;rotate_left
       ·have dz:decide (x2 < y2)=false:=by simpa using hxz
        have HED2:=zh (show dj=shiftDown ltInt k1 d1 from by rw[<-HED.out,jD (Or.inr (by rw[<-hx,<-hj1,<-hy];exact hxz))]);clear hx hy hj1 hj0;go_wp2;go_quiet (first | (go_at_call 163;refine Calls.quiet_of_same (al _ _ _)));go_wp2;have HUD:=zh (HUD.out.drew nq);have HKD:=zh (HKD.out.drewN nq);generalize wr.drewN nq=w4 at HUD HKD ⊢;clear e0 e1 g0 g1 v8 dz hxz;have HY:=zh (show partialIns ltInt a b s k (fixUp ltInt b k dj)=R from by rw[HED2.out];exact HV.out);have HZ:=zh (show partialIns ltInt a b s k (shiftUp ltInt b k2 dj)=R from by
         have:=HY.out;unfold fixUp at this;rw[if_pos (by have:=HKA.out;have:=HBK.out;omega),show k+1=k2 by have:=HKA.out;omega]at this
         exact this)
        go_loopw [10] (fun vj wr=>∃(j:Nat) (du:Array Int),vj=.int .i64 j/\k2<=j/\du.size=n/\aA wr B n du/\aa (fun k=>k=B) w wr/\shiftUp ltInt b j du=shiftUp ltInt b k2 dj) (fun vj _=>b+1-(intOf vj).toNat)
        case atStart=>exact⟨k2,dj,rfl,Nat.le_refl _,HSD.out,HUD.out,HKD.out,rfl⟩
        case round=>
         obtain⟨j,du,rfl,hkj,hsj,hU,hK,hE⟩:=hrel;have HUD:=zh hU;have HKD:=zh hK;have HSD:=zh hsj;have HED:=zh hE;have hnn:=HN.out;clear hU hK hsj hE;have HK2:=zh (show a < j/\k2<=j from by have:=HKA.out;have:=HAK.out;omega);by_cases hjb:j < b;rotate_left
         ·have u1:¬(j:Int) < (b:Int):=by omega
          have HF:=zh (show partialIns ltInt a b s k du=R from by rw[<-HZ.out,<-HED.out,gk (Or.inl hjb)]);go_wp2;refine⟨⟨k,st1,s,du,rfl,rfl,by have:=HST.out;have:=HST1.out;omega,HAK.out.1,HAK.out.2,HSD.out,HUD.out,HKD.out,HF.out⟩,by have:=HST.out;have:=HST1.out;simp[intOf]<;>omega⟩
         have u1:(j:Int) < (b:Int):=by omega
         obtain⟨j1,hj1⟩:=af (j-1)
         obtain⟨jn,hjn⟩:=af (j+1)
         have v8:IntKind.i64.wrap ((j:Int)-1)=(j1:Int):=by have:=HK2.out;simp[IntKind.wrap_i64];omega
         have v9:IntKind.i64.wrap ((j:Int)+1)=(jn:Int):=by simp[IntKind.wrap_i64];omega
         have HJ1:=zh (show j=j1+1/\jn=j+1/\j < b from by have:=HK2.out;omega);obtain⟨x2,hx⟩:∃x,x=du[j]!:=⟨_,rfl⟩
         obtain⟨y2,hy⟩:∃y,y=du[j1]!:=⟨_,rfl⟩
         have e0:wr.cell? ⟨B,j,none⟩=some (.int .u64 x2):=by rw[hx];exact HUD.out.cell (by omega)
         have e1:wr.cell? ⟨B,j1,none⟩=some (.int .u64 y2):=by rw[hy];exact HUD.out.cell (by omega)
         have g0:=HUD.out.fr j;have g1:=HUD.out.fr j1;have m0:(j:Int) < (n:Int):=by omega
         have m1:(j1:Int) < (n:Int):=by omega
         by_cases hxz:x2 < y2;rotate_left
         ·have dz:decide (x2 < y2)=false:=by simpa using hxz
          have HF:=zh (show partialIns ltInt a b s k du=R from by rw[<-HZ.out,<-HED.out,gk (Or.inr (by rw[<-hx,<-hj1,<-hy];exact hxz))]);clear hx hy hj1 hjn hjb;go_wp2;go_quiet (first | (go_at_call 163;refine Calls.quiet_of_same (al _ _ _)));go_wp2;refine⟨⟨k,st1,s,du,rfl,rfl,by have:=HST.out;have:=HST1.out;omega,HAK.out.1,HAK.out.2,HSD.out,(HUD.out.drew nq),(HKD.out.drewN nq),HF.out⟩,by have:=HST.out;have:=HST1.out;simp[intOf]<;>omega⟩
         have dz:decide (x2 < y2)=true:=by simpa using hxz
         have HG:=zh (show shiftUp ltInt b jn (swp du j j1)=shiftUp ltInt b k2 dj from by rw[<-HED.out,pE hjb (by rw[<-hx,<-hj1,<-hy];exact hxz),<-hj1,<-hjn]);have hxn:¬j=j1:=by have:=HJ1.out;omega
         have hxn2:¬j1=j:=by have:=HJ1.out;omega
         have HUT:=zh (show ∀q,aA (((wr.drewN q).setCell ⟨B,j,none⟩ (.int .u64 y2)).setCell ⟨B,j1,none⟩ (.int .u64 x2)) B n (swp du j j1)from fun q=>by
          rw[hx,hy];exact(HUD.out.drew q).swap HSD.out (by omega) (by omega))
         have HKT:=zh (show ∀q,aa (fun k=>k=B) w (((wr.drewN q).setCell ⟨B,j,none⟩ (.int .u64 y2)).setCell ⟨B,j1,none⟩ (.int .u64 x2))from fun q=>((HKD.out.drewN q).setCell (p:=⟨B,j,none⟩) rfl _).setCell (p:=⟨B,j1,none⟩) rfl _);clear hx hy hj1 hjn hjb;go_wp2;go_quiet (first | (go_at_call 163;refine Calls.quiet_of_same (al _ _ _)));go_wp2;go_region
         all_goals go_wp2
         go_roundw
         case rel=>exact⟨jn,swp du j j1,rfl,by have:=HJ1.out;have:=HK2.out;omega,by rw[size_swp];exact HSD.out,HUT.out _,HKT.out _,HG.out⟩
         case measure=>have:=HJ1.out;simp[intOf]<;>omega
       have dz:decide (x2 < y2)=true:=by simpa using hxz
       have HG:=zh (show shiftDown ltInt j1 (swp dj j j1)=shiftDown ltInt k1 d1 from by rw[<-HED.out,uh hj0 (by rw[<-hx,<-hj1,<-hy];exact hxz),<-hj1]);have hxn:¬j=j1:=by have:=HJ1.out;omega
       have hxn2:¬j1=j:=by have:=HJ1.out;omega
       have HUT:=zh (show ∀q,aA (((wr.drewN q).setCell ⟨B,j,none⟩ (.int .u64 y2)).setCell ⟨B,j1,none⟩ (.int .u64 x2)) B n (swp dj j j1)from fun q=>by
        rw[hx,hy];exact(HUD.out.drew q).swap HSD.out (by have:=HK2.out;omega) (by have:=HK2.out;omega))
       have HKT:=zh (show ∀q,aa (fun k=>k=B) w (((wr.drewN q).setCell ⟨B,j,none⟩ (.int .u64 y2)).setCell ⟨B,j1,none⟩ (.int .u64 x2))from fun q=>((HKD.out.drewN q).setCell (p:=⟨B,j,none⟩) rfl _).setCell (p:=⟨B,j1,none⟩) rfl _);clear hx hy hj1 hj0;go_wp2;go_quiet (first | (go_at_call 163;refine Calls.quiet_of_same (al _ _ _)));go_wp2;go_region
       all_goals go_wp2
       go_roundw
       case rel=>exact⟨j1,swp dj j j1,rfl,by have:=HJ1.out;have:=HK2.out;omega,by rw[size_swp];exact HSD.out,HUT.out _,HKT.out _,HG.out⟩
       case measure=>have:=HJ1.out;simp[intOf]<;>omega
end Go.Proofs.YtiiojpnckbglcaaGreat
