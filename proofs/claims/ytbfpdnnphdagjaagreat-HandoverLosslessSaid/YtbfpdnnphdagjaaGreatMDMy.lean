import Derived.Test.YtbfpdnnphdagjaaGreatDLy
import Derived.Test.YtbfpdnnphdagjaaGreatMVMy
import Derived.Laws.Bits64b
import Derived.Lib.MinMax
import Derived.Test.YtbfpdnnphdagjaaGreatB1y
set_option maxRecDepth 100000
set_option maxHeartbeats 6400000
set_option linter.unusedVariables false
set_option linter.unusedSimpArgs false
namespace Go.Proofs.YtbfpdnnphdagjaaGreat
open Go.RowKit
theorem AW (d:Int) (h0:0<=d) (h1:d<=4294967296):bits BinOp.and .u64 d 4095=d % 4096:=by
 obtain⟨n,rfl⟩:=Int.eq_ofNat_of_zero_le h0;have h:=bits_and_u64_nat n 4095 (by omega) (by omega);rw[show n &&& 4095=n % 4096 from Nat.and_two_pow_sub_one_eq_mod n 12]at h
 exact h
theorem Ad (q:Int) (sn:Nat) (h0:0<=q) (h1:q < 1048576) (hs:sn < 4096):bits BinOp.or .u64 (q*4096) sn=q*4096+sn:=by
 obtain⟨n,rfl⟩:=Int.eq_ofNat_of_zero_le h0;have h:=bits_or_u64_nat (n*4096) sn (by omega) (by omega);rw[show n*4096 ||| sn=n*4096+sn by rw[Nat.mul_comm];exact(Nat.two_pow_add_eq_or_of_lt (i:=12) hs n).symm]at h;have e1:((n*4096:Nat):Int)=(n:Int)*4096:=by omega
 have e2:((n*4096+sn:Nat):Int)=(n:Int)*4096+sn:=by omega
 rw[e1,e2]at h
 exact h
def zY (d:Int) (sn:Nat) (w:World) (e:Ending) (w':World):Prop:=aa (fun _=>False) w w'/\match bR d sn with | some ct=>e=.returned (.int .u64 ct) | none=>e=.panicked (d8 6)
theorem jh {d:Int} {sn:Nat} {w w':World} {q:Int} (h:iN d sn=q) (h0:0<=q) (h1:q < 1048576) (hk:aa (fun _=>False) w w'):zY d sn w (.returned (.int .u64 (q*4096+sn))) w':=by
 refine⟨hk,?_⟩;unfold bR;rw[if_pos (by rw[h];exact⟨h0,h1⟩),h]
theorem gv {d:Int} {sn:Nat} {w w':World} {q:Int} (h:iN d sn=q) (h1:¬(0<=q/\q < 1048576)) (hk:aa (fun _=>False) w w'):zY d sn w (.panicked (d8 6)) w':=by
 refine⟨hk,?_⟩;unfold bR;rw[if_neg (by rw[h];exact h1)]
theorem px (g:Nat) (s:RS) (W R:Nat->Prop) (sb:Nat) (l:List SE) (ub eb:Nat) (w:World) (h:aN w g s W R sb l ub eb) (sn:Nat) (hs:sn < 4096) :
  Calls Tryz.prog 73 #[.pointer (some ⟨g,0,none⟩),.int .u64 sn] w (zY s.deliver sn w):=by
 have HT:=zh h;have c1:=h.drew_.cdeliver;have hok:=h.ok;obtain⟨d,hd⟩:=af s.deliver
 rw[<-hd]at c1;have d0:0<=d:=by have:=hok.deliver;omega
 have d1:d<=4294967296:=by have:=hok.deliver;have:=hok.next;omega
 clear h hok;rw[<-hd];clear hd;go_enter Tryz.func73,Tryz.ntmps73;go_upto_region 1 with (fail)
 go_region;rw[AW d d0 d1];have HK:=zh (aa.refl.drew:aa (fun _=>False) w w.drew);have hcd:iN d sn=if (sn:Int)+2048 < d % 4096 then d / 4096+1 else if d % 4096+2048<=(sn:Int) then d / 4096-1 else d / 4096:=rfl
 have q0:0<=d / 4096:=by omega
 have q1:d / 4096<=1048576:=by omega
 have m0:0<=d % 4096:=by omega
 have m1:d % 4096 < 4096:=by omega
 generalize hqe:d / 4096=q at hcd q0 q1 ⊢;generalize hme:d % 4096=m at hcd m0 m1 ⊢;have HH:=zh hcd;clear hcd c1 HT hqe hme d0 d1;obtain⟨wd,hwd⟩:=af w.drew
 rw[<-hwd]at HK ⊢;clear hwd;by_cases hA:(sn:Int)+2048 < m
 ·skip;obtain⟨z,hz⟩:=af (q+1)
  have hzc:iN d sn=z:=by rw[HH.out];rw[if_pos hA];exact hz.symm
  have HZ:=zh hzc;clear hzc;by_cases z0:0<=z
  ·by_cases z1:z < 1048576
   ·have ho:=Ad z sn z0 z1 hs;rw[hz]at ho z0 z1;have z2:1<=q↔0<=q-1:=by omega
    have z3:=z2.2
    try have z3:=z2.2 z0
    clear z2;go_wp2_with (first | (go_at_call 72;with_reducible refine(aB _ _).mono ?_;rintro e w3 ⟨rfl,rfl⟩) | (go_at_call 72;with_reducible refine(aA _ _).mono ?_;rintro e w3 ⟨rfl,rfl⟩));go_ret
    first
     | (rw[<-hz];exact jh HZ.out (by rw[hz];exact z0) (by rw[hz];exact z1) HK.out)
     | (fail)
   ·have hn:¬(0<=z/\z < 1048576):=by omega
    rw[hz]at z0 z1
    try have z3:¬1<=q:=by omega
    try have z4:decide (q+1 < 1048576)=false:=decide_eq_false z1
    go_wp2_with (first | (go_at_call 72;with_reducible refine(aB _ _).mono ?_;rintro e w3 ⟨rfl,rfl⟩) | (go_at_call 72;with_reducible refine(aA _ _).mono ?_;rintro e w3 ⟨rfl,rfl⟩))
    first
     | exact⟨rfl,gv HZ.out hn HK.out⟩
     | (fail)
  ·exact absurd (show 0<=z by omega) z0
 ·by_cases hB:m+2048<=(sn:Int)
  ·skip;obtain⟨z,hz⟩:=af (q-1)
   have hzc:iN d sn=z:=by rw[HH.out];rw[if_neg hA,if_pos hB];exact hz.symm
   have HZ:=zh hzc;clear hzc;by_cases z0:0<=z
   ·by_cases z1:z < 1048576
    ·have ho:=Ad z sn z0 z1 hs;rw[hz]at ho z0 z1;have z2:1<=q↔0<=q-1:=by omega
     have z3:=z2.2
     try have z3:=z2.2 z0
     clear z2;go_wp2_with (first | (go_at_call 72;with_reducible refine(aB _ _).mono ?_;rintro e w3 ⟨rfl,rfl⟩) | (go_at_call 72;with_reducible refine(aA _ _).mono ?_;rintro e w3 ⟨rfl,rfl⟩));go_ret
     first
      | (rw[<-hz];exact jh HZ.out (by rw[hz];exact z0) (by rw[hz];exact z1) HK.out)
      | (fail)
    ·have hn:¬(0<=z/\z < 1048576):=by omega
     rw[hz]at z0 z1
     try have z3:¬1<=q:=by omega
     try have z4:decide (q-1 < 1048576)=false:=decide_eq_false z1
     go_wp2_with (first | (go_at_call 72;with_reducible refine(aB _ _).mono ?_;rintro e w3 ⟨rfl,rfl⟩) | (go_at_call 72;with_reducible refine(aA _ _).mono ?_;rintro e w3 ⟨rfl,rfl⟩))
     first
      | exact⟨rfl,gv HZ.out hn HK.out⟩
      | (fail)
   ·have hn:¬(0<=z/\z < 1048576):=by omega
    rw[hz]at z0
    try have z3:¬1<=q:=by omega
    try have z4:decide (q-1 < 1048576)=false:=decide_eq_false z1
    go_wp2_with (first | (go_at_call 72;with_reducible refine(aB _ _).mono ?_;rintro e w3 ⟨rfl,rfl⟩) | (go_at_call 72;with_reducible refine(aA _ _).mono ?_;rintro e w3 ⟨rfl,rfl⟩))
    first
     | exact⟨rfl,gv HZ.out hn HK.out⟩
     | (fail)
  ·skip;obtain⟨z,hz⟩:=af q
   have hzc:iN d sn=z:=by rw[HH.out];rw[if_neg hA,if_neg hB];exact hz.symm
   have HZ:=zh hzc;clear hzc;by_cases z0:0<=z
   ·by_cases z1:z < 1048576
    ·have ho:=Ad z sn z0 z1 hs;rw[hz]at ho z0 z1;have z2:1<=q↔0<=q-1:=by omega
     have z3:=z2.2
     try have z3:=z2.2 z0
     clear z2;go_wp2_with (first | (go_at_call 72;with_reducible refine(aB _ _).mono ?_;rintro e w3 ⟨rfl,rfl⟩) | (go_at_call 72;with_reducible refine(aA _ _).mono ?_;rintro e w3 ⟨rfl,rfl⟩));go_ret
     first
      | (rw[<-hz];exact jh HZ.out (by rw[hz];exact z0) (by rw[hz];exact z1) HK.out)
      | (fail)
    ·have hn:¬(0<=z/\z < 1048576):=by omega
     rw[hz]at z0 z1
     try have z3:¬1<=q:=by omega
     try have z4:decide (q < 1048576)=false:=decide_eq_false z1
     go_wp2_with (first | (go_at_call 72;with_reducible refine(aB _ _).mono ?_;rintro e w3 ⟨rfl,rfl⟩) | (go_at_call 72;with_reducible refine(aA _ _).mono ?_;rintro e w3 ⟨rfl,rfl⟩))
     first
      | exact⟨rfl,gv HZ.out hn HK.out⟩
      | (fail)
   ·exact absurd (show 0<=z by omega) z0
end Go.Proofs.YtbfpdnnphdagjaaGreat
namespace Go.Proofs.YtbfpdnnphdagjaaGreat
open Go.RowKit
attribute [local go_sem] Oper.semAt_some
theorem qZ (key:Nat->Nat) (ct b d:Nat) (hc:ct < 4294967296) (hb:b < 32) (hd:d < 2) (A:Option Addr) (n c:Nat) (hn:n=0) (w:World) :
  Calls Tryz.prog 69 #[.agg (av key),.int .u32 ct,.int .i64 b,.int .i64 d,.slice A n c] w fun e w'=>e=.returned (.tuple #[.slice none 0 0,.int .i64 0])/\Below w.heap.size w w':=by
 have HPF:=zh (fun V=>fw ct b d hc hb hd V);obtain⟨ZB,hZB⟩:∃ZB:Array Value,ZB=#[.int .u8 0,.int .u8 0,.int .u8 0,.int .u8 0,.int .u8 0,.int .u8 0,.int .u8 0,.int .u8 0]:=⟨_,rfl⟩
 have HZB:=zh hZB;obtain⟨X,hX⟩:=af (bA 8 (cF (my ct b d)))
 have HX:Hid ((Tryz.prog.info? 184).map (·.size)=some X.size):=zh (by rw[hX];exact jA _);have HOX:Hid (X.all (·.oneCell')=true):=zh (by rw[hX];exact fS _ _);have HZX:Hid (ZB.size=X.size):=zh (by rw[hX,hZB,cE];rfl);rw[<-hX]at HPF;obtain⟨KY,hKY⟩:=af (av key)
 rw[<-hKY];clear hc hb hd hX hKY hZB;subst hn;go_enter Tryz.func69,Tryz.ntmps69;go_upto_region 1 with (fail)
 obtain⟨kb,hkb⟩:=af w.heap.size
 refine ah (fun V=>ae V (kb+1) 41 #[.slice A 0 c]/\Below w.heap.size w V) ⟨by rw[hkb];exact ar _ _ _ _ (by simp),(bU _).alloc (by simp) _⟩ ?_;rintro W1 ⟨b2,b3⟩;have B2:=zh b2;have B3:=zh b3;rw[<-hkb];have hkl:=b3.size;clear b2 b3 hkb;go_upto_region 2 with (first
  | (go_at_call 98;refine(HPF.out _).mono ?_;rintro e w4 ⟨rfl,hb4⟩;have C2:=zh (B2.out.below hb4 B2.out.lt);have C3:=zh (B3.out.trans (hb4.mono B3.out.size));clear hb4)
  | (refine wpList_store_row rfl _ _ _ rfl w4.heap.size X rfl rfl 184 ZB (by rw[HZB.out];exact ae.new _ _ _) HX.out HZX.out HOX.out ?_))
 have hb5:Below w4.heap.size w4 ((w4.alloc (.cells ZB 184)).setRow w4.heap.size X):=al (bU _) ay _;refine ah (fun V=>ae V (kb+1) 41 #[.slice A 0 c]/\Below w.heap.size w V) ⟨C2.out.below (by rw[<-HZB.out];exact hb5) C2.out.lt,C3.out.trans ((by rw[<-HZB.out];exact hb5:Below _ _ _).mono C3.out.size)⟩ ?_;rintro W2 ⟨b2,b3⟩;have D3:=zh b3;have d2:W2.cell? ⟨kb+1,0,none⟩=some (.slice A 0 c):=b2.cell 0;clear b2 b3 hb5 B2 B3 C2 C3;go_wp2
 first
  | (refine bodyPost_ret (v:=.tuple #[.slice none 0 0,.int .i64 0]) (by simp[results,Tryz.results69,go_sem]) rfl ?_;exact⟨rfl,D3.out⟩)
  | (fail)
theorem rP (key:Nat->Nat) (ct b d:Nat) (hc:ct < 4294967296) (hb:b < 32) (hd:d < 2) (A:Option Addr) (n c:Nat) (hn:16384 < n) (w:World) :
  Calls Tryz.prog 69 #[.agg (av key),.int .u32 ct,.int .i64 b,.int .i64 d,.slice A n c] w fun e w'=>e=.returned (.tuple #[.slice none 0 0,.int .i64 4])/\Below w.heap.size w w':=by
 have HPF:=zh (fun V=>fw ct b d hc hb hd V);obtain⟨ZB,hZB⟩:∃ZB:Array Value,ZB=#[.int .u8 0,.int .u8 0,.int .u8 0,.int .u8 0,.int .u8 0,.int .u8 0,.int .u8 0,.int .u8 0]:=⟨_,rfl⟩
 have HZB:=zh hZB;obtain⟨X,hX⟩:=af (bA 8 (cF (my ct b d)))
 have HX:Hid ((Tryz.prog.info? 184).map (·.size)=some X.size):=zh (by rw[hX];exact jA _);have HOX:Hid (X.all (·.oneCell')=true):=zh (by rw[hX];exact fS _ _);have HZX:Hid (ZB.size=X.size):=zh (by rw[hX,hZB,cE];rfl);rw[<-hX]at HPF;obtain⟨KY,hKY⟩:=af (av key)
 rw[<-hKY];clear hc hb hd hX hKY hZB;have n1:(16384:Int) < (n:Int):=by omega
 have n2:¬(n:Int)<=16384:=by omega
 go_enter Tryz.func69,Tryz.ntmps69;go_upto_region 1 with (fail)
 obtain⟨kb,hkb⟩:=af w.heap.size
 refine ah (fun V=>ae V (kb+1) 41 #[.slice A n c]/\Below w.heap.size w V) ⟨by rw[hkb];exact ar _ _ _ _ (by simp),(bU _).alloc (by simp) _⟩ ?_;rintro W1 ⟨b2,b3⟩;have B2:=zh b2;have B3:=zh b3;rw[<-hkb];have hkl:=b3.size;clear b2 b3 hkb;go_upto_region 2 with (first
  | (go_at_call 98;refine(HPF.out _).mono ?_;rintro e w4 ⟨rfl,hb4⟩;have C2:=zh (B2.out.below hb4 B2.out.lt);have C3:=zh (B3.out.trans (hb4.mono B3.out.size));clear hb4)
  | (refine wpList_store_row rfl _ _ _ rfl w4.heap.size X rfl rfl 184 ZB (by rw[HZB.out];exact ae.new _ _ _) HX.out HZX.out HOX.out ?_))
 have hb5:Below w4.heap.size w4 ((w4.alloc (.cells ZB 184)).setRow w4.heap.size X):=al (bU _) ay _;refine ah (fun V=>ae V (kb+1) 41 #[.slice A n c]/\Below w.heap.size w V) ⟨C2.out.below (by rw[<-HZB.out];exact hb5) C2.out.lt,C3.out.trans ((by rw[<-HZB.out];exact hb5:Below _ _ _).mono C3.out.size)⟩ ?_;rintro W2 ⟨b2,b3⟩;have D3:=zh b3;have d2:W2.cell? ⟨kb+1,0,none⟩=some (.slice A n c):=b2.cell 0;clear b2 b3 hb5 B2 B3 C2 C3;go_wp2
 first
  | (refine bodyPost_ret (v:=.tuple #[.slice none 0 0,.int .i64 4]) (by simp[results,Tryz.results69,go_sem]) rfl ?_;exact⟨rfl,D3.out⟩)
  | (fail)
theorem wX (lb lo m c:Nat) (h2:2<=m) (hmc:m<=c):∃lo2,(∀w,(Instr.slice 41 (.slice (some ⟨lb,lo,none⟩) m c) (some (.int .i64 2)) none none).run Tryz.prog w=.ok (.slice (some ⟨lb,lo2,none⟩) (m-2) (c-2)) w)/\(2 < m->lo2=lo+2):=by
 have hm0:(2:Int)<=(m:Int):=by omega
 by_cases hc:c=2
 ·subst hc
  exact⟨lo,fun w=>by simp[go_sem,hm0],fun h=>by omega⟩
 ·exact⟨lo+2,fun w=>by simp[go_sem,hm0,hc],fun _=>rfl⟩
def xN (C:ax) (ct n:Nat) (z:Nat->Nat) (w:World) (e:Ending) (w':World):Prop:=
 Below w.heap.size w w'/\if 16384 < n-2 then e=.panicked (d8 4) else if cj C ct n z=false then e=.panicked (d8 11) else
  ∃A c,e=.returned (.slice A (aT C n) c)/\aT C n<=c/\dP w.heap.size A/\aD w' w'.heap.size A (aT C n) (fun j=>.int .u8 ((eC C ct z j:Nat):Int))
def Bm (key:Nat->Nat) (ct b d n:Nat) (z:Nat->Nat) (w:World) (e:Ending) (w':World):Prop:=
 ∃A m c er,e=.returned (.tuple #[.slice A m c,.int .i64 er])/\Below w.heap.size w w'/\(16384 < n->er=4)/\(n<=16384->er=0/\m=n/\n<=c/\dP w.heap.size A/\aD w' w'.heap.size A n (fun j=>.int .u8 ((fy key ct b d z j:Nat):Int)))
theorem mE (key:Nat->Nat) (ct b d:Nat) (hk:bw key) (hc:ct < 4294967296) (hb:b < 32) (hd:d < 2) (A:Option Addr) (n c:Nat) (z:Nat->Nat) (hz:∀j,j < n->z j < 256) (w:World) (hr:aD w w.heap.size A n (fun j=>.int .u8 ((z j:Nat):Int))) :
  Calls Tryz.prog 69 #[.agg (av key),.int .u32 ct,.int .i64 b,.int .i64 d,.slice A n c] w (Bm key ct b d n z w):=by
 by_cases h0:n=0
 ·refine(qZ key ct b d hc hb hd A n c h0 w).mono ?_;rintro e w' ⟨rfl,hB⟩
  exact⟨none,0,0,0,rfl,hB,fun h=>by omega,fun _=>⟨rfl,h0.symm,by omega,fun a h=>(by cases h),fun h=>absurd h0 (by omega)⟩⟩
 ·by_cases h1:16384 < n
  ·refine(rP key ct b d hc hb hd A n c h1 w).mono ?_;rintro e w' ⟨rfl,hB⟩
   exact⟨none,0,0,4,rfl,hB,fun _=>rfl,fun h=>by omega⟩
  ·refine(jY key ct b d hk hc hb hd A n c z (by omega) (by omega) hz w hr).mono ?_;rintro e w' ⟨A',c',rfl,hc',hF,hR,hB⟩
   exact⟨A',n,c',0,rfl,hB,fun h=>absurd h h1,fun _=>⟨rfl,rfl,hc',hF,hR⟩⟩
theorem ky (g:Nat) (s:RS) (W R:Nat->Prop) (sb:Nat) (l:List SE) (ub eb:Nat) (w:World) (h:aN w g s W R sb l ub eb) (hok:s.C.Ok) (hv:s.C.Valid) (ct:Nat) (hct:ct < 4294967296)
  (A:Option Addr) (n c:Nat) (z:Nat->Nat) (hn:2<=n) (hig:s.C.ig=false\/16384 < n-2) (hnc:n<=c) (hz:∀j,j < n->z j < 256) (hr:aD w w.heap.size A n (fun j=>.int .u8 ((z j:Nat):Int))) :
  Calls Tryz.prog 74 #[.pointer (some ⟨g,0,none⟩),.int .u32 ct,.slice A n c] w (xN s.C ct n z w):=by
 have HT:=zh h;have HZ:=zh hz;have HIG:=zh hig;have HKL:Hid (bw (nf s.C.key)):=zh (fun j hj=>dZ hok.key hj);obtain⟨B,hB⟩:∃B:Nat,B=s.C.b.toNat:=⟨_,rfl⟩
 obtain⟨D,hD⟩:∃D:Nat,D=s.C.d.toNat:=⟨_,rfl⟩
 have HB:=zh hB;have HD:=zh hD;have HBI:Hid (s.C.b=(B:Int)):=zh (by rw[hB];have:=hv.1;omega);have HDI:Hid (s.C.d=(D:Int)):=zh (by rw[hD];have:=hv.2.2.1;omega);have HBL:Hid (B < 32):=zh (by rw[hB];have:=hv.2.1;omega);have HDL:Hid (D < 2):=zh (by rw[hD];have:=hv.2.2.1;omega);have HCT:=zh hct;obtain⟨pb,po,rfl,hpb,hpc⟩:=hr (by omega);obtain⟨lo2,hs2,hlo2⟩:=wX pb po n c hn hnc;have HSL:=zh hs2;have HR2:Hid (aD w w.heap.size (some ⟨pb,lo2,none⟩) (n-2) (fun j=>.int .u8 ((z (2+j):Nat):Int))):=zh (fun hne=>⟨pb,lo2,rfl,hpb,fun j hj=>by
  rw[hlo2 (by omega),Nat.add_assoc]
  exact hpc (2+j) (by omega)⟩)
 have HN:=zh (And.intro hn hnc);clear h hz hig hB hD hv hct hr hpb hpc hs2 hlo2 hnc hn;obtain⟨w0,hw0⟩:=af w.drew
 have hb0:Below w.heap.size w w0:=by rw[hw0];exact(Below.refl _ _).drew
 have HKR:=zh (show ∀W',Below w.heap.size w W'->W'.rangeAt g 2 (av (nf s.C.key)).toList from fun W' hW j v hv=>by
  have hj:j < 16:=by have:=(List.getElem?_eq_some_iff.1 hv).1;rw[Array.length_toList,ak]at this;exact this
  rw[(HT.out.below hW).cC (j:=2+j) (by omega),<-hv,Array.getElem?_toList,aX _ hj];unfold ax.cell;rw[if_neg (by omega),if_neg (by omega),if_pos (by omega),show 2+j-2=j by omega,dO hok.key hj])
 have HC0:=zh (show ∀W',Below w.heap.size w W'->W'.cell? ⟨g,0,none⟩=some (.int .i64 (B:Int))from fun W' hW=>((HT.out.below hW).cC (j:=0) (by decide)).trans (by rw[show s.C.cell 0=.int .i64 s.C.b from rfl,HBI.out]));have HC1:=zh (show ∀W',Below w.heap.size w W'->W'.cell? ⟨g,1,none⟩=some (.int .i64 (D:Int))from fun W' hW=>((HT.out.below hW).cC (j:=1) (by decide)).trans (by rw[show s.C.cell 1=.int .i64 s.C.d from rfl,HDI.out]));have HS16:Hid ((Tryz.prog.info? 23).map (·.size)=some (av (nf s.C.key)).toList.length):=zh (by rw[Array.length_toList,ak];kernel_rfl);have HUK:=zh Tryz.underlying23;have HCR:=zh (mE (nf s.C.key) ct B D HKL.out HCT.out HBL.out HDL.out (some ⟨pb,lo2,none⟩) (n-2) (c-2) (fun j=>z (2+j)) (fun j hj=>HZ.out _ (by have:=HN.out;omega)) w0 (HR2.out.next hb0));have c34:∀W',Below w.heap.size w W'->W'.cell? ⟨g,34,none⟩=some (.bool s.C.ig):=fun W' hW=>((HT.out.below hW).cC (j:=34) (by decide)).trans rfl;have HC34:=zh c34;have HBW0:=zh hb0;clear c34;go_enter Tryz.func74,Tryz.ntmps74;go_upto_region 1 with (fail)
 refine wp_region_held_drew (S:=fun w'=>Below w.heap.size w w') (by kernel_rfl) ((Below.refl _ w).drew) (fun hHeld=>?_);rw[<-hw0];rw[<-hw0]at hHeld;clear hw0 hb0;refine ba (i:=0) (x:=some 13) (v:=.pointer (some ⟨g,0,none⟩)) rfl ?_;refine az (i:=1) (x:=some 14) (v:=.pointer (some ⟨g,0,none⟩)) rfl ?_;refine az (i:=2) (x:=some 15) (v:=.pointer (some ⟨g,0,none⟩)) rfl ?_;refine az (i:=3) (x:=some 16) (v:=.pointer (some ⟨g,2,none⟩)) rfl ?_;refine' bE (i:=4) (x:=some 17) (v:=_) rfl (yieldsIf_load_mid (by rfl) _ _ rfl g 2 rfl (av (nf s.C.key)).toList _ (fun w h=>HKR.out w h) HUK.out rfl HS16.out) ?_;refine ba (i:=5) (x:=some 18) (v:=.int .u32 ct) rfl ?_;refine ba (i:=6) (x:=some 19) (v:=.pointer (some ⟨g,0,none⟩)) rfl ?_;refine az (i:=7) (x:=some 20) (v:=.pointer (some ⟨g,0,none⟩)) rfl ?_;refine az (i:=8) (x:=some 21) (v:=.pointer (some ⟨g,0,none⟩)) rfl ?_;refine az (i:=9) (x:=some 22) (v:=.pointer (some ⟨g,0,none⟩)) rfl ?_;refine bE (i:=10) (x:=some 23) (v:=.int .i64 (B:Int)) rfl (.inl ⟨by rfl,fun W hW=>(by have:=HC0.out W hW;go_simp)⟩) ?_;refine ba (i:=11) (x:=some 24) (v:=.pointer (some ⟨g,0,none⟩)) rfl ?_;refine az (i:=12) (x:=some 25) (v:=.pointer (some ⟨g,0,none⟩)) rfl ?_;refine az (i:=13) (x:=some 26) (v:=.pointer (some ⟨g,0,none⟩)) rfl ?_;refine az (i:=14) (x:=some 27) (v:=.pointer (some ⟨g,1,none⟩)) rfl ?_;refine bE (i:=15) (x:=some 28) (v:=.int .i64 (D:Int)) rfl (.inl ⟨by rfl,fun W hW=>(by have:=HC1.out W hW;go_simp)⟩) ?_;refine ba (i:=16) (x:=some 29) (v:=.slice (some ⟨pb,po,none⟩) n c) rfl ?_;refine bE (i:=17) (x:=some 30) (v:=.slice (some ⟨pb,lo2,none⟩) (n-2) (c-2)) rfl (.inl ⟨by rfl,fun W hW=>(by have:=HSL.out W;unfold execOp;simp only[Act.eval,go_sem];simp[go_sem,this])⟩) ?_;refine aL (i:=18) (x:=some 31) rfl fun K hK=>?_;go_simp;refine(HCR.out).mono ?_;rintro e w3 ⟨A3,m3,c3,er,rfl,hB3,h4,h5⟩;dsimp only;have HB3:=zh hB3;have H45:=zh (And.intro h4 h5);have H3:Below w.heap.size w w3:=hHeld.trans (hB3.mono HBW0.out.size);refine hK.out _ _ H3 (fun hHeld=>?_);clear hK K h4 h5 hB3
 try simp only[Act.put,qa,qb,qc]
 refine ba (i:=19) (x:=some 12) (v:=.tuple #[.slice A3 m3 c3,.int .i64 er]) rfl ?_;refine az (i:=20) (x:=some 32) (v:=.slice A3 m3 c3) rfl ?_;refine ba (i:=22) (x:=some 7) (v:=.slice A3 m3 c3) rfl ?_;refine az (i:=21) (x:=some 33) (v:=.int .i64 er) rfl ?_;refine ba (i:=23) (x:=some 8) (v:=.int .i64 er) rfl ?_;refine wpAnyH_done (by kernel_rfl) ?_ _;have HH3:=zh H3;have c34:=HC34.out w3 H3;clear H3 hHeld;by_cases hbig:16384 < n-2
 ·obtain rfl:=H45.out.1 hbig;go_wp2_with (first | (go_at_call 72;with_reducible refine(aB _ _).mono ?_;rintro e w5 ⟨rfl,rfl⟩) | (go_at_call 72;with_reducible refine(aA _ _).mono ?_;rintro e w5 ⟨rfl,rfl⟩))
  exact⟨rfl,HH3.out,by rw[if_pos hbig]⟩
 ·obtain⟨rfl,rfl,hc3,hF3,hR3⟩:=H45.out.2 (by omega);have HIG0:=zh (HIG.out.resolve_right hbig);rw[HIG0.out]at c34;have HR3:=zh hR3;have HF3:=zh hF3;have HC3:=zh hc3;clear hc3 hF3 hR3;go_wp2_with (first | (go_at_call 72;with_reducible refine(aB _ _).mono ?_;rintro e w5 ⟨rfl,rfl⟩) | (go_at_call 72;with_reducible refine(aA _ _).mono ?_;rintro e w5 ⟨rfl,rfl⟩));go_ret;have hdn:aT s.C n=n-2:=by unfold aT ax.least;rw[HIG0.out];rfl
  refine⟨HH3.out,?_⟩;rw[if_neg hbig,if_neg (by unfold cj;rw[HIG0.out];simp),hdn]
  exact⟨A3,c3,rfl,HC3.out,fun a ha=>a9 HBW0.out.size (HF3.out a ha),by rw[HB.out,HD.out]at HR3;exact HR3.out⟩
def Bj (n:Nat) (z:Nat->Int) (w:World) (e:Ending) (w':World):Prop:=
 Below w.heap.size w w'/\if n=0 then e=.panicked (d8 5) else if 9000 < n then e=.panicked (d8 4) else
  ∃A c,e=.returned (.slice A n c)/\n<=c/\dP w.heap.size A/\aD w' w'.heap.size A n (fun j=>.int .u8 (z j))
theorem ng (g:Nat) (s:RS) (W R:Nat->Prop) (sb:Nat) (l:List SE) (ub eb:Nat) (w:World) (h:aN w g s W R sb l ub eb) (hcm:s.C.cm=false) (A:Option Addr) (n c:Nat) (z:Nat->Int) (hn:n<=1000000) (hr:aD w w.heap.size A n (fun j=>.int .u8 (z j))) :
  Calls Tryz.prog 76 #[.pointer (some ⟨g,0,none⟩),.slice A n c] w (Bj n z w):=by
 have c35:w.cell? ⟨g,35,none⟩=some (.bool false):=(h.cC (j:=35) (by decide)).trans (by rw[show s.C.cell 35=.bool s.C.cm from rfl,hcm]);have HCL:=zh (cw A n c z w (by omega) hr);clear h hr hcm;by_cases h0:n=0
 ·subst h0;clear HCL;go_enter Tryz.func76,Tryz.ntmps76;go_wp2_with (first | (go_at_call 72;with_reducible refine(aB _ _).mono ?_;rintro e w4 ⟨rfl,hw9⟩;subst w4) | (go_at_call 72;with_reducible refine(aA _ _).mono ?_;rintro e w4 ⟨rfl,hw9⟩;subst w4))
  exact⟨rfl,Below.refl _ _,by rw[if_pos rfl]⟩
 have n0:0 < n:=by omega
 by_cases h9:9000 < n
 ·have n8:decide ((n:Int)<=9000)=false:=decide_eq_false (by omega);clear HCL;go_enter Tryz.func76,Tryz.ntmps76;go_wp2_with (first | (go_at_call 72;with_reducible refine(aB _ _).mono ?_;rintro e w4 ⟨rfl,hw9⟩;subst w4) | (go_at_call 72;with_reducible refine(aA _ _).mono ?_;rintro e w4 ⟨rfl,hw9⟩;subst w4))
  exact⟨rfl,Below.refl _ _,by rw[if_neg h0,if_pos h9]⟩
 ·have n9:decide ((n:Int)<=9000)=true:=decide_eq_true (by omega);go_enter Tryz.func76,Tryz.ntmps76;go_wp2_with (first | (go_at_call 72;with_reducible refine(aB _ _).mono ?_;rintro e w4 ⟨rfl,hw9⟩;subst w4) | (go_at_call 72;with_reducible refine(aA _ _).mono ?_;rintro e w4 ⟨rfl,hw9⟩;subst w4) | (go_at_call 25;refine(HCL.out).mono ?_;rintro e V2 ⟨A2,c2,rfl,hc2,hR2,hF2,hbk⟩;have HR2:=zh hR2;have HF2:=zh hF2;have HC2:=zh hc2;have HBK:=zh hbk;clear hc2 hR2 hF2 hbk));go_ret
  exact⟨HBK.out,by rw[if_neg h0,if_neg h9];exact⟨A2,c2,rfl,HC2.out,HF2.out,HR2.out⟩⟩
theorem va (x:Nat) (h:x < 256):bits BinOp.and .u8 (x:Int) 15=((x % 16:Nat):Int):=(by decide +kernel:∀x:Nat,x < 256->bits BinOp.and .u8 (x:Int) 15=((x % 16:Nat):Int)) x h
theorem BC (m x:Nat) (hm:m < 16) (hx:x < 256):bits BinOp.or .u64 ((m:Int)*256) (x:Int)=((m*256+x:Nat):Int):=by
 have h:=bits_or_u64_nat (m*256) x (by omega) (by omega);rw[show m*256 ||| x=m*256+x by rw[Nat.mul_comm];exact(Nat.two_pow_add_eq_or_of_lt (i:=8) hx m).symm]at h;have e1:((m*256:Nat):Int)=(m:Int)*256:=by omega
 rw[e1]at h
 exact h
theorem pH {d:Int} {sn:Nat} {ct:Int} (h:bR d sn=some ct) (hs:sn < 4096):0<=ct/\ct < 4294967296:=by
 unfold bR at h
 split at h
 ·injection h with h;omega
 ·cases h
theorem qj {C:ax} (hk:bw (nf C.key)) {n:Nat} {z:Nat->Nat} (ct:Nat) (hz:∀j,j < n->z j < 256) (hn:2<=n) {j:Nat} (hj:j < aT C n):eC C ct z j < 256:=by
 unfold eC;refine nO hk _ _ _ (hz _ ?_);unfold aT ax.least at hj
 split at hj<;>omega
theorem aN.put {w w':World} {g:Nat} {s:RS} {W R:Nat->Prop} {sb:Nat} {l:List SE} {ub eb:Nat} (h:aN w g s W R sb l ub eb) (x:SE) (hk:aa (fun k=>k=sb) w w') (hm:SM w' sb (fL x l)) (hn:bn x.v.ct l=none) (h0:s.deliver<=x.v.ct) (h1:x.v.ct+1<=4294967296) (hp:bZ w R x.A x.v.n x.c x.v.z) :
  aN (w'.setCell ⟨g,42,none⟩ (.int .u64 (max s.next (x.v.ct+1)))) g { s with L:=dq x.v s.L,next:=max s.next (x.v.ct+1) } W R sb (fL x l) ub eb:=by
 have hnx:=h.ok.next;have hs:=h.setNext (max s.next (x.v.ct+1)) (by omega);have k1:=aC w g 42 (.int .u64 (max s.next (x.v.ct+1)));have k2:=aC w' g 42 (.int .u64 (max s.next (x.v.ct+1)));have b1:=h.blk.set_ 42 (.int .u64 (max s.next (x.v.ct+1)));have b2:=(hk.blk h.blk (fun e=>h.gs e)).set_ 42 (.int .u64 (max s.next (x.v.ct+1)));have zz:∀(V:World) (a:Addr) (v:Value),(V.setCell a v).heap.size=V.heap.size:=fun V a v=>by simp[World.setCell]
 have hkk:aa (fun k=>k=sb) (w.setCell ⟨g,42,none⟩ (.int .u64 (max s.next (x.v.ct+1)))) (w'.setCell ⟨g,42,none⟩ (.int .u64 (max s.next (x.v.ct+1)))):=
  ⟨k2.os.trans (hk.os.trans k1.os.symm),k2.tape.trans (hk.tape.trans k1.tape.symm),k2.output.trans (hk.output.trans k1.output.symm),by rw[zz,zz];exact hk.size,fun k hk1 hn1=>by
   rw[zz]at hk1;by_cases hg:k=g
   ·subst hg
    exact(show _=_ from b2).trans (show _=_ from b1).symm
   ·exact(k2.block k (bp hk1 hk.size) hg).trans ((hk.block k hk1 hn1).trans (k1.block k hk1 hg).symm)⟩
 refine hs.setMap hkk (hm.keepF k2 (fun e=>h.gs e.symm)) (ga h.ris hn) ?_ (fun e he=>?_) (fun e he=>?_)
 ·rw[kx,h.lv]
 ·rcases (fe x l e).1 he with rfl | he
  ·exact⟨h0,by show e.v.ct < max s.next (e.v.ct+1);omega⟩
  ·have:=h.rng e he
   exact⟨this.1,by show e.v.ct < max s.next (x.v.ct+1);omega⟩
 ·rcases (fe x l e).1 he with rfl | he
  ·exact hp.keep k1 (fun k e2 hr=>h.dis k (e2 ▸ h.wg) hr)
  ·exact(h.pk e he).keep k1 (fun k e2 hr=>h.dis k (e2 ▸ h.wg) hr)
def mt (g:Nat) (s:RS) (W R:Nat->Prop) (sb:Nat) (l:List SE) (ub eb n:Nat) (z:Nat->Nat) (w:World) (e:Ending) (w':World):Prop:=
 ∃R' l',e=(if (s.take n z).1=0 then .returned (.bool (s.take n z).2.1) else .panicked (d8 (s.take n z).1))/\aN w' g (s.take n z).2.2 W R' sb l' ub eb/\(∀k,R' k->R k\/w.heap.size<=k)/\(∀k,R k->R' k)/\aa W w w'/\l'.length<=l.length+1
theorem br {g:Nat} {s:RS} {W R:Nat->Prop} {sb:Nat} {l:List SE} {ub eb n:Nat} {z:Nat->Nat} {w w':World} {c:Int} (hx:s.take n z=(c,false,s)) (hc:c ≠ 0) (h:aN w g s W R sb l ub eb) (hk:aa (fun _=>False) w w'):mt g s W R sb l ub eb n z w (.panicked (d8 c)) w':=
 ⟨R,l,by rw[hx];simp only;rw[if_neg hc],by rw[hx];exact h.keepF hk (fun _ h=>h.elim),fun k h=>.inl h,fun k h=>h,hk.mono (fun _ h=>h.elim),by omega⟩
theorem gB {g:Nat} {s:RS} {W R:Nat->Prop} {sb:Nat} {l:List SE} {ub eb n:Nat} {z:Nat->Nat} {w w6:World} (hx:s.take n z=(0,false,{ s with dup:=s.dup+1 })) (h:aN w g s W R sb l ub eb) (hd:s.dup < 4611686018427387903) (hb:Below w.heap.size w w6) :
  mt g s W R sb l ub eb n z w (.returned (.bool false)) (w6.setCell ⟨g,50,none⟩ (.int .i64 (s.dup+1))):=
 ⟨R,l,by rw[hx];rfl,by rw[hx];exact(h.below hb).setDup (s.dup+1) (by have:=h.ok.dup;omega),fun k h=>.inl h,fun k h=>h,(aa.of_below hb).trans (aC w6 g 50 _) (fun k _ e=>by rw[e];exact h.wg),by omega⟩
theorem mA {g:Nat} {s:RS} {W R:Nat->Prop} {sb:Nat} {l:List SE} {ub eb n:Nat} {z:Nat->Nat} {w w8 w9:World} {ct dn:Nat} {zz:Nat->Int} {A4:Option Addr} {c4:Nat} (hx:s.take n z=(0,true,{ s with L:=dq ⟨ct,dn,zz⟩ s.L,next:=max s.next ((ct:Int)+1) })) (h:aN w g s W R sb l ub eb)
  (hb:Below w.heap.size w w8) (hk:aa (fun k=>k=sb) w8 w9) (hm:SM w9 sb (fL ⟨⟨ct,dn,zz⟩,A4,c4⟩ l)) (hn:bn (ct:Int) l=none) (h0:s.deliver<=ct) (h1:(ct:Int)+1<=4294967296) (hd1:1<=dn) (hd9:dn<=9000) (hc:dn<=c4) (hzz:∀j,j < dn->0<=zz j/\zz j < 256)
  (hR:aD w8 w8.heap.size A4 dn (fun j=>.int .u8 (zz j))) (hF:dP w.heap.size A4):mt g s W R sb l ub eb n z w (.returned (.bool true)) (w9.setCell ⟨g,42,none⟩ (.int .u64 (max s.next ((ct:Int)+1)))):=by
 have hlt:∀k,(∃a,A4=some a/\k=a.block)->w.heap.size<=k/\k < w8.heap.size:=by
  rintro k ⟨a,ha,rfl⟩;obtain⟨b,o,e1,e2,_⟩:=hR (by omega);rw[ha]at e1;cases e1
  exact⟨hF _ ha,e2⟩
 have h8:=(h.below hb).moreR (R':=fun k=>R k\/∃a,A4=some a/\k=a.block) (fun k hk=>.inl hk) (fun k hw hr=>by
  rcases hr with hr | hr
  ·exact h.dis k hw hr
  ·have:=h.win k hw;have:=(hlt k hr).1;omega) (fun k hr=>by
  rcases hr with hr | hr
  ·exact bp (h.rin k hr) hb.size
  ·exact(hlt k hr).2)
 refine⟨fun k=>R k\/∃a,A4=some a/\k=a.block,fL ⟨⟨ct,dn,zz⟩,A4,c4⟩ l,by rw[hx];rfl,by rw[hx];exact h8.put ⟨⟨ct,dn,zz⟩,A4,c4⟩ hk hm hn h0 h1 ⟨hd1,hd9,hc,hzz,hR,fun a ha=>.inr ⟨a,ha,rfl⟩⟩,fun k hr=>?_,fun k hr=>.inl hr,?_,by rw[oQ];omega⟩
 ·rcases hr with hr | hr
  ·exact .inl hr
  ·exact .inr (hlt k hr).1
 ·exact((aa.of_below hb).trans hk (fun k _ e=>by rw[e];exact h.ws)).trans (aC w9 g 42 _) (fun k _ e=>by rw[e];exact h.wg)
def qX (g:Nat) (C:ax) (A:Option Addr) (n c:Nat) (z:Nat->Nat) (w:World):Prop:=
 C.least<=n->∀ct W',ct < 4294967296->Below w.heap.size w W'->Calls Tryz.prog 74 #[.pointer (some ⟨g,0,none⟩),.int .u32 (ct:Nat),.slice A n c] W' (xN C ct n z W')
theorem yb (g:Nat) (s:RS) (W R:Nat->Prop) (sb:Nat) (l:List SE) (ub eb:Nat) (w:World) (h:aN w g s W R sb l ub eb) (hok:s.C.Ok) (hcm:s.C.cm=false) (hig:s.C.ig=false) (hdup:s.dup < 4611686018427387903)
  (A:Option Addr) (n c:Nat) (z:Nat->Nat) (hn:n<=9223372036854775807) (hnc:n<=c) (hz:∀j,j < n->z j < 256) (hr:aD w w.heap.size A n (fun j=>.int .u8 ((z j:Nat):Int))) (hD:qX g s.C A n c z w) :
  Calls Tryz.prog 51 #[.pointer (some ⟨g,0,none⟩),.slice A n c] w (mt g s W R sb l ub eb n z w):=by
 have HT:=zh h;have HDA:=zh hD;have HCM:=zh hcm;have HZ:=zh hz;have HIG:=zh hig;have HOK:Hid (bw (nf s.C.key)):=zh (fun j hj=>dZ hok.key hj);clear hok;have HLS:=zh (show s.C.least=2 by unfold ax.least;rw[hig];rfl);have c34:w.cell? ⟨g,34,none⟩=some (.bool false):=(h.cC (j:=34) (by decide)).trans (by rw[show s.C.cell 34=.bool s.C.ig from rfl,hig]);have HDUP:=zh hdup;by_cases hlo:n < 2
 ·have HX:=zh (show s.take n z=(5,false,s) by unfold RS.take;rw[HLS.out,if_pos hlo]);have hlo2:(n:Int) < 2:=by omega
  have hlo3:¬(2:Int)<=(n:Int):=by omega
  clear hlo hig h hD hcm hz hdup hr;go_enter Tryz.func51,Tryz.ntmps51;go_wp2_with (first | (go_at_call 72;with_reducible refine(aB _ _).mono ?_;rintro e w4 ⟨rfl,hw9⟩;subst w4) | (go_at_call 72;with_reducible refine(aA _ _).mono ?_;rintro e w4 ⟨rfl,hw9⟩;subst w4))
  exact⟨rfl,br HX.out (by decide) HT.out aa.refl⟩
 obtain⟨pb,po,rfl,hpb,hpc⟩:=hr (by omega);have z0:w.cell? ⟨pb,po,none⟩=some (.int .u8 ((z 0:Nat):Int)):=by have:=hpc 0 (by omega);simpa using this
 have z1:=hpc 1 (by omega);have hz0:=hz 0 (by omega);have hz1:=hz 1 (by omega);have HZC:=zh (show ∀W',Below w.heap.size w W'->W'.cell? ⟨pb,po,none⟩=some (.int .u8 ((z 0:Nat):Int))/\W'.cell? ⟨pb,po+1,none⟩=some (.int .u8 ((z 1:Nat):Int))from fun W' hW=>⟨(hW.cell (p:=⟨pb,po,none⟩) hpb).trans z0,(hW.cell (p:=⟨pb,po+1,none⟩) hpb).trans z1⟩);obtain⟨x0,hx0⟩:∃x,x=z 0:=⟨_,rfl⟩
 obtain⟨x1,hx1⟩:∃x,x=z 1:=⟨_,rfl⟩
 rw[<-hx0]at z0 hz0;rw[<-hx1]at hz1;rw[<-hx0,<-hx1]at HZC;have HXX:=zh (And.intro hx0 hx1);have hln:(2:Int)<=(n:Int):=by omega
 have hn1:(1:Int) < (n:Int):=by omega
 have hn0:(0:Int) < (n:Int):=by omega
 have hsh:(x0:Int) / 16=((x0 / 16:Nat):Int):=by omega
 obtain⟨q0,hq0⟩:∃q,q=x0 / 16:=⟨_,rfl⟩
 rw[<-hq0]at hsh;have HQ:=zh hq0;have hnn:=hlo;clear hr hpc z1 hx0 hx1 h hD hcm hz hdup hig hq0;by_cases h8:q0=8;rotate_left
 ·have HX:=zh (show s.take n z=(9,false,s) by unfold RS.take;rw[HLS.out,if_neg hlo,if_pos (by rw[<-HXX.out.1,<-HQ.out];exact h8)]);have h8b:¬(q0:Int)=8:=by omega
  have h8c:((q0:Int) == 8)=false:=by rw[beq_eq_false_iff_ne];exact h8b
  go_enter Tryz.func51,Tryz.ntmps51;go_wp2_with (first | (go_at_call 72;with_reducible refine(aB _ _).mono ?_;rintro e w4 ⟨rfl,hw9⟩;subst w4) | (go_at_call 72;with_reducible refine(aA _ _).mono ?_;rintro e w4 ⟨rfl,hw9⟩;subst w4))
  exact⟨rfl,br HX.out (by decide) HT.out aa.refl⟩
 have h8i:(q0:Int)=8:=by omega
 have h8c:((q0:Int) == 8)=true:=by rw[beq_iff_eq];exact h8i
 go_enter Tryz.func51,Tryz.ntmps51;go_upto_region 6 with (first | (go_at_call 72;with_reducible refine(aB _ _).mono ?_;rintro e w4 ⟨rfl,hw9⟩;subst w4) | (go_at_call 72;with_reducible refine(aA _ _).mono ?_;rintro e w4 ⟨rfl,hw9⟩;subst w4))
 obtain⟨w0,hw0⟩:=af w.drew
 have hb0:Below w.heap.size w w0:=by rw[hw0];exact(Below.refl _ _).drew
 have HBW0:=zh hb0;obtain⟨m0,hm0⟩:∃m,m=x0 % 16:=⟨_,rfl⟩
 obtain⟨sn,hsn⟩:=af (m0*256+x1)
 have ha15:bits BinOp.and .u8 (x0:Int) 15=(m0:Int):=by rw[hm0];exact va x0 hz0
 have m16:m0 < 16:=by omega
 have ho8:bits BinOp.or .u64 ((m0:Int)*256) (x1:Int)=(sn:Int):=by rw[hsn];exact BC m0 x1 m16 hz1
 have HSN:=zh (show sn=fI z by rw[hsn,hm0,HXX.out.1,HXX.out.2];rfl);have hsl:sn < 4096:=by omega
 have HSL:=zh hsl;have HCN:=zh (px g s W R sb l ub eb w0 (HT.out.below hb0) sn hsl);have mi0:(0:Int)<=(m0:Int):=by omega
 have mi1:(m0:Int) < 16:=by omega
 have xi0:(0:Int)<=(x1:Int):=by omega
 have xi1:(x1:Int) < 256:=by omega
 have hwm:IntKind.u64.wrap (m0:Int)=(m0:Int):=by rw[IntKind.wrap_u64];omega
 have hwx:IntKind.u64.wrap (x1:Int)=(x1:Int):=by rw[IntKind.wrap_u64];omega
 have hw8:IntKind.u64.wrap ((m0:Int)*256)=(m0:Int)*256:=by rw[IntKind.wrap_u64];omega
 have hnz:n ≠ 0:=by omega
 have hn1N:1 < n:=by omega
 clear hsl hm0 hsn;refine wp_region_held_drew (S:=fun w'=>Below w.heap.size w w') (by kernel_rfl) ((Below.refl _ w).drew) (fun hHeld=>?_);rw[<-hw0];rw[<-hw0]at hHeld;clear hw0 hb0;refine ba (i:=0) (x:=some 28) (v:=.pointer (some ⟨g,0,none⟩)) rfl ?_;refine ba (i:=1) (x:=some 29) (v:=.slice (some ⟨pb,po,none⟩) n c) rfl ?_;refine az (i:=2) (x:=some 30) (v:=.pointer (some ⟨pb,po,none⟩)) rfl ?_;refine bE (i:=3) (x:=some 31) (v:=.int .u8 (x0:Int)) rfl (.inl ⟨by rfl,fun W hW=>(by have:=(HZC.out W hW).1;go_simp)⟩) ?_;refine az (i:=4) (x:=some 32) (v:=.int .u8 (m0:Int)) rfl ?_;refine az (i:=5) (x:=some 33) (v:=.int .u64 (m0:Int)) rfl ?_;refine az (i:=6) (x:=some 34) (v:=.int .u64 ((m0:Int)*256)) rfl ?_;refine ba (i:=7) (x:=some 35) (v:=.slice (some ⟨pb,po,none⟩) n c) rfl ?_;refine az (i:=8) (x:=some 36) (v:=.pointer (some ⟨pb,po+1,none⟩)) rfl ?_;refine bE (i:=9) (x:=some 37) (v:=.int .u8 (x1:Int)) rfl (.inl ⟨by rfl,fun W hW=>(by have:=(HZC.out W hW).2;go_simp)⟩) ?_;refine az (i:=10) (x:=some 38) (v:=.int .u64 (x1:Int)) rfl ?_;refine az (i:=11) (x:=some 39) (v:=.int .u64 (sn:Int)) rfl ?_;refine aL (i:=12) (x:=some 40) rfl fun K hK=>?_;go_simp;refine(HCN.out).mono ?_;rintro e w3 ⟨hk3,he⟩;have H3:Below w.heap.size w w3:=aa.below HBW0.out hk3 (fun _ h=>h.elim) HBW0.out.size;have htk:=fun(h:¬n < 2)=>(show s.take n z=(match bR s.deliver (fI z) with
  | none=>(6,false,s)
  | some ct=>
   if 16384 < n-2 then (4,false,s) else
   if cj s.C ct.toNat n z=false then (11,false,s) else
   if stored s.L ct=true\/ct < s.deliver then (0,false,{ s with dup:=s.dup+1 }) else
   if aT s.C n=0 then (5,false,s) else
   if 9000 < aT s.C n then (4,false,s) else
   (0,true,{ s with L:=dq ⟨ct,aT s.C n,fun j=>((eC s.C ct.toNat z j:Nat):Int)⟩ s.L,next:=max s.next (ct+1) })) by unfold RS.take;rw[HLS.out,if_neg h,if_neg (by rw[<-HXX.out.1,<-HQ.out];exact fun h=>h h8)];rfl)
 have HTK:=zh (htk hlo);rw[<-HSN.out]at HTK;clear htk;rcases hcc:bR s.deliver sn with _ | cti
 ·rw[hcc]at he HTK;simp only at he;subst he
  exact⟨rfl,br HTK.out (by decide) HT.out (aa.of_below H3)⟩
 rw[hcc]at he HTK;simp only at he;subst he;have hc2:=pH hcc HSL.out;obtain⟨ct,rfl⟩:=Int.eq_ofNat_of_zero_le hc2.1;have hct:ct < 4294967296:=by omega
 dsimp only;refine hK.out _ _ H3 (fun hHeld=>?_);clear hK K hk3 HCN hcc hc2
 try simp only[Act.put,qa,qb,qc]
 refine ba (i:=13) (x:=some 6) (v:=.int .u64 (ct:Int)) rfl ?_;refine wpAnyH_done (by kernel_rfl) ?_ _;have HH3:=zh H3;have HDT:=zh (HDA.out (by rw[HLS.out];omega) ct w3 hct H3);have ci0:(0:Int)<=(ct:Int):=by omega
 have ci1:(ct:Int) < 4294967296:=by omega
 clear H3 hHeld ha15 ho8 z0;simp only[Int.toNat_natCast]at HTK;by_cases hbig:16384 < n-2
 ·rw[if_pos hbig]at HTK;go_wp2_with (go_at_call 74;refine(HDT.out).mono ?_;rintro e w6 ⟨hb6,h6⟩;rw[if_pos hbig]at h6;subst h6);have hb:=HH3.out.trans (hb6.mono HH3.out.size)
  exact⟨rfl,br HTK.out (by decide) HT.out (aa.of_below hb)⟩
 rw[if_neg hbig]at HTK;by_cases hcode:cj s.C ct n z=false
 ·rw[if_pos hcode]at HTK;go_wp2_with (go_at_call 74;refine(HDT.out).mono ?_;rintro e w6 ⟨hb6,h6⟩;rw[if_neg hbig,if_pos hcode]at h6;subst h6);have hb:=HH3.out.trans (hb6.mono HH3.out.size)
  exact⟨rfl,br HTK.out (by decide) HT.out (aa.of_below hb)⟩
 rw[if_neg hcode]at HTK;have HBG:=zh (And.intro hbig hcode);clear hbig hcode;go_upto_region 8 with (go_at_call 74;refine(HDT.out).mono ?_;rintro e w6 ⟨hb6,h6⟩;rw[if_neg HBG.out.1,if_neg HBG.out.2]at h6;obtain⟨A3,c3,rfl,hc3,hF3,hR3⟩:=h6;have HB6:=zh (HH3.out.trans (hb6.mono HH3.out.size));have HC3:=zh hc3;have HF3:=zh hF3;have HR3:=zh hR3;clear hc3 hF3 hR3 hb6)
 have HT6:=zh (HT.out.below HB6.out);have hst:=gl (ct:Int) l;rw[HT6.out.lv]at hst;obtain⟨lv,hlk⟩:∃lv,(Instr.lookup 87 (.map (some sb)) (.int .u64 (ct:Int)) true).run Tryz.prog w6=.ok (.tuple #[lv,.bool (stored s.L (ct:Int))]) w6:=⟨_,by rw[hst];exact iq HT6.out.st (f:=(ct:Int)) ci0 (by omega)⟩
 have e1:=HT6.out.cs;have e2:=HT6.out.cdeliver;have e3:=HT6.out.cdup;have e4:=HT6.out.fr 50;have e5:w6.cell? ⟨g,35,none⟩=some (.bool false):=(HT6.out.cC (j:=35) (by decide)).trans (by rw[show s.C.cell 35=.bool s.C.cm from rfl,HCM.out]);have e6:=HT6.out.cnext;obtain⟨dl,hdl⟩:∃d,d=s.deliver:=⟨_,rfl⟩
 rw[<-hdl]at e2;have hd0:=HT6.out.ok.dup;have hd1:=HDUP.out;have hd00:=hd0.1;have hwd:wrap64 (s.dup+1)=s.dup+1:=by unfold wrap64;omega
 have HEX:=zh (And.intro hdl hd1);clear hd0 hdl
 cases hsb:stored s.L (ct:Int)
 rotate_left
 ·rw[hsb]at hlk;rw[if_pos (Or.inl hsb)]at HTK;clear e2 e6 hst hsb;go_wp2;go_ret
  exact gB HTK.out HT.out HDUP.out HB6.out
 rw[hsb]at hlk hst;have hns:¬stored s.L (ct:Int)=true:=by rw[hsb];decide
 by_cases hcd:(ct:Int) < dl
 ·rw[if_pos (Or.inr (by rw[<-HEX.out.1];exact hcd))]at HTK;clear e6 hst hns hsb;go_wp2;go_ret
  exact gB HTK.out HT.out HDUP.out HB6.out
 rw[if_neg (by rintro (h | h);exact hns h;rw[<-HEX.out.1]at h;exact hcd h)]at HTK;have hfn:bn (ct:Int) l=none:=by cases hf:bn (ct:Int) l with | none=>rfl | some e=>rw[hf]at hst;cases hst
 have HFN:=zh hfn;have HCD:=zh hcd;obtain⟨dn,hdn⟩:∃d,d=aT s.C n:=⟨_,rfl⟩
 have hdnn:dn<=16384:=by rw[hdn];unfold aT ax.least;have:=HBG.out.1;split<;>omega
 obtain⟨zz,hzz⟩:∃f:Nat->Int,f=fun j=>((eC s.C ct z j:Nat):Int):=⟨_,rfl⟩
 have HZZ:=zh (show ∀j,j < dn->0<=zz j/\zz j < 256 from fun j hj=>by
  rw[hdn]at hj;have:=qj HOK.out ct HZ.out (by omega) hj;rw[hzz]
  exact⟨by simp,by simp only;omega⟩)
 have hrow:aD w6 w6.heap.size A3 (aT s.C n) (fun j=>.int .u8 (zz j)):=by rw[hzz];exact HR3.out
 rw[<-hzz]at HTK;rw[<-hdn]at hrow HTK HC3 ⊢;clear hzz hst hns hsb hfn HR3 hdn;go_upto_region 14 with (fail)
 obtain⟨w7,hw7⟩:=af w6.drew
 have hb7:Below w6.heap.size w6 w7:=by rw[hw7];exact(Below.refl _ _).drew
 have HB7:=zh hb7;have HPK:=zh (ng g s W R sb l ub eb w7 (HT6.out.below hb7) HCM.out A3 dn c3 zz (by omega) (hrow.next hb7));have e9:∀W',aa (fun k=>k=sb) w6 W'->W'.cell? ⟨g,43,none⟩=some (.map (some sb)):=fun W' hW=>(hW.cell (p:=⟨g,43,none⟩) HT6.out.blk.lt (fun e=>HT6.out.gs e)).trans HT6.out.cs;have HE9:=zh e9;refine wp_region_held_drew (S:=fun w'=>aa (fun k=>k=sb) w6 w') (by kernel_rfl) (aa.refl.drew) (fun hHeld=>?_);rw[<-hw7];rw[<-hw7]at hHeld;clear hw7 hb7 hrow e9 e1 hlk;refine ba (i:=0) (x:=some 79) (v:=.pointer (some ⟨g,0,none⟩)) rfl ?_;refine az (i:=1) (x:=some 80) (v:=.pointer (some ⟨g,0,none⟩)) rfl ?_;refine az (i:=2) (x:=some 81) (v:=.pointer (some ⟨g,43,none⟩)) rfl ?_;refine bE (i:=3) (x:=some 82) (v:=.map (some sb)) rfl (.inl ⟨by rfl,fun W hW=>(by have:=HE9.out W hW;go_simp)⟩) ?_;refine ba (i:=4) (x:=some 83) (v:=.int .u64 (ct:Int)) rfl ?_;refine ba (i:=5) (x:=some 84) (v:=.pointer (some ⟨g,0,none⟩)) rfl ?_;refine ba (i:=6) (x:=some 85) (v:=.slice A3 dn c3) rfl ?_;refine aL (i:=7) (x:=some 86) rfl fun K hK=>?_;go_simp;refine(HPK.out).mono ?_;rintro e w8 ⟨hb8,h8⟩;have hbw:Below w.heap.size w w8:=HB6.out.trans ((HB7.out.trans (hb8.mono HB7.out.size)).mono HB6.out.size);by_cases hd00:dn=0
 ·rw[if_pos hd00]at h8 HTK;subst h8
  exact⟨rfl,br HTK.out (by decide) HT.out (aa.of_below hbw)⟩
 rw[if_neg hd00]at h8 HTK;by_cases hd90:9000 < dn
 ·rw[if_pos hd90]at h8 HTK;subst h8
  exact⟨rfl,br HTK.out (by decide) HT.out (aa.of_below hbw)⟩
 rw[if_neg hd90]at h8 HTK;obtain⟨A4,c4,rfl,hc4,hF4,hR4⟩:=h8;dsimp only;have H8:aa (fun k=>k=sb) w6 w8:=hHeld.trans (aa.of_below (F:=fun _=>False) hb8) (fun _ _ h=>h.elim);refine hK.out _ _ H8 (fun hHeld=>?_);have HT8:=zh (HT.out.below hbw);obtain⟨w9,hput,hm9,hk9⟩:=j6 HT8.out.st ⟨⟨(ct:Int),dn,zz⟩,A4,c4⟩ ci0 (by show(ct:Int) < _;omega) HFN.out HT8.out.few;have hput2:(Instr.mapUpdate 87 (.map (some sb)) (.int .u64 (ct:Int)) (.slice A4 dn c4)).run Tryz.prog w8=.ok () w9:=hput;have HA4:=zh (And.intro hc4 (And.intro hF4 (And.intro hR4 (And.intro hm9 (And.intro hk9 (And.intro hd00 hd90))))));have HBW:=zh hbw;have H9:aa (fun k=>k=sb) w6 w9:=H8.trans hk9 (fun _ _ h=>h);clear hK K hc4 hF4 hR4 hm9 hb8 hput hbw hd00 hd90
 try simp only[Act.put,qa,qb,qc]
 refine aL (i:=8) (x:=none) rfl fun K hK=>?_;go_simp;refine hK.out _ _ H9 (fun hHeld=>?_);clear hK K hput2
 try simp only[Act.put]
 refine wpAnyH_done (by kernel_rfl) ?_ _;have f1:w9.cell? ⟨g,42,none⟩=some (.int .u64 s.next):=(H9.cell (p:=⟨g,42,none⟩) HT6.out.blk.lt (fun e=>HT6.out.gs e)).trans HT6.out.cnext;have f2:w9.frozen? ⟨g,42,none⟩=false:=(H9.blk HT6.out.blk (fun e=>HT6.out.gs e)).frozen 42;have hwc:IntKind.u64.wrap ((ct:Int)+1)=(ct:Int)+1:=by rw[IntKind.wrap_u64];omega
 clear H8 H9 hHeld e3 e4 e5 e6;go_wp2;go_ret
 exact mA HTK.out HT.out HBW.out HA4.out.2.2.2.2.1 HA4.out.2.2.2.1 HFN.out (by have:=HCD.out;rw[HEX.out.1]at this;omega) (by omega) (by have:=HA4.out.2.2.2.2.2.1;omega) (by have:=HA4.out.2.2.2.2.2.2;omega) HA4.out.1 HZZ.out HA4.out.2.2.1 (fun a ha=>a9 (a9 HB6.out.size HB7.out.size) (HA4.out.2.1 a ha))
theorem wR (g:Nat) (s:RS) (W R:Nat->Prop) (sb:Nat) (l:List SE) (ub eb:Nat) (w:World) (h:aN w g s W R sb l ub eb) (hok:s.C.Ok) (hcm:s.C.cm=false) (hig:s.C.ig=true) (hdup:s.dup < 4611686018427387903)
  (A:Option Addr) (n c:Nat) (z:Nat->Nat) (hn:n<=9223372036854775807) (hnc:n<=c) (hz:∀j,j < n->z j < 256) (hr:aD w w.heap.size A n (fun j=>.int .u8 ((z j:Nat):Int))) (hD:qX g s.C A n c z w) :
  Calls Tryz.prog 51 #[.pointer (some ⟨g,0,none⟩),.slice A n c] w (mt g s W R sb l ub eb n z w):=by
 have HT:=zh h;have HDA:=zh hD;have HCM:=zh hcm;have HZ:=zh hz;have HIG:=zh hig;have HOK:Hid (bw (nf s.C.key)):=zh (fun j hj=>dZ hok.key hj);clear hok;have HLS:=zh (show s.C.least=6 by unfold ax.least;rw[hig];rfl);have c34:w.cell? ⟨g,34,none⟩=some (.bool true):=(h.cC (j:=34) (by decide)).trans (by rw[show s.C.cell 34=.bool s.C.ig from rfl,hig]);have HDUP:=zh hdup;by_cases hlo:n < 6
 ·have HX:=zh (show s.take n z=(5,false,s) by unfold RS.take;rw[HLS.out,if_pos hlo]);have hlo2:(n:Int) < 6:=by omega
  have hlo3:¬(6:Int)<=(n:Int):=by omega
  clear hlo hig h hD hcm hz hdup hr;go_enter Tryz.func51,Tryz.ntmps51;go_wp2_with (first | (go_at_call 72;with_reducible refine(aB _ _).mono ?_;rintro e w4 ⟨rfl,hw9⟩;subst w4) | (go_at_call 72;with_reducible refine(aA _ _).mono ?_;rintro e w4 ⟨rfl,hw9⟩;subst w4))
  exact⟨rfl,br HX.out (by decide) HT.out aa.refl⟩
 obtain⟨pb,po,rfl,hpb,hpc⟩:=hr (by omega);have z0:w.cell? ⟨pb,po,none⟩=some (.int .u8 ((z 0:Nat):Int)):=by have:=hpc 0 (by omega);simpa using this
 have z1:=hpc 1 (by omega);have hz0:=hz 0 (by omega);have hz1:=hz 1 (by omega);have HZC:=zh (show ∀W',Below w.heap.size w W'->W'.cell? ⟨pb,po,none⟩=some (.int .u8 ((z 0:Nat):Int))/\W'.cell? ⟨pb,po+1,none⟩=some (.int .u8 ((z 1:Nat):Int))from fun W' hW=>⟨(hW.cell (p:=⟨pb,po,none⟩) hpb).trans z0,(hW.cell (p:=⟨pb,po+1,none⟩) hpb).trans z1⟩);obtain⟨x0,hx0⟩:∃x,x=z 0:=⟨_,rfl⟩
 obtain⟨x1,hx1⟩:∃x,x=z 1:=⟨_,rfl⟩
 rw[<-hx0]at z0 hz0;rw[<-hx1]at hz1;rw[<-hx0,<-hx1]at HZC;have HXX:=zh (And.intro hx0 hx1);have hln:(6:Int)<=(n:Int):=by omega
 have hn1:(1:Int) < (n:Int):=by omega
 have hn0:(0:Int) < (n:Int):=by omega
 have hsh:(x0:Int) / 16=((x0 / 16:Nat):Int):=by omega
 obtain⟨q0,hq0⟩:∃q,q=x0 / 16:=⟨_,rfl⟩
 rw[<-hq0]at hsh;have HQ:=zh hq0;have hnn:=hlo;clear hr hpc z1 hx0 hx1 h hD hcm hz hdup hig hq0;by_cases h8:q0=8;rotate_left
 ·have HX:=zh (show s.take n z=(9,false,s) by unfold RS.take;rw[HLS.out,if_neg hlo,if_pos (by rw[<-HXX.out.1,<-HQ.out];exact h8)]);have h8b:¬(q0:Int)=8:=by omega
  have h8c:((q0:Int) == 8)=false:=by rw[beq_eq_false_iff_ne];exact h8b
  go_enter Tryz.func51,Tryz.ntmps51;go_wp2_with (first | (go_at_call 72;with_reducible refine(aB _ _).mono ?_;rintro e w4 ⟨rfl,hw9⟩;subst w4) | (go_at_call 72;with_reducible refine(aA _ _).mono ?_;rintro e w4 ⟨rfl,hw9⟩;subst w4))
  exact⟨rfl,br HX.out (by decide) HT.out aa.refl⟩
 have h8i:(q0:Int)=8:=by omega
 have h8c:((q0:Int) == 8)=true:=by rw[beq_iff_eq];exact h8i
 go_enter Tryz.func51,Tryz.ntmps51;go_upto_region 6 with (first | (go_at_call 72;with_reducible refine(aB _ _).mono ?_;rintro e w4 ⟨rfl,hw9⟩;subst w4) | (go_at_call 72;with_reducible refine(aA _ _).mono ?_;rintro e w4 ⟨rfl,hw9⟩;subst w4))
 obtain⟨w0,hw0⟩:=af w.drew
 have hb0:Below w.heap.size w w0:=by rw[hw0];exact(Below.refl _ _).drew
 have HBW0:=zh hb0;obtain⟨m0,hm0⟩:∃m,m=x0 % 16:=⟨_,rfl⟩
 obtain⟨sn,hsn⟩:=af (m0*256+x1)
 have ha15:bits BinOp.and .u8 (x0:Int) 15=(m0:Int):=by rw[hm0];exact va x0 hz0
 have m16:m0 < 16:=by omega
 have ho8:bits BinOp.or .u64 ((m0:Int)*256) (x1:Int)=(sn:Int):=by rw[hsn];exact BC m0 x1 m16 hz1
 have HSN:=zh (show sn=fI z by rw[hsn,hm0,HXX.out.1,HXX.out.2];rfl);have hsl:sn < 4096:=by omega
 have HSL:=zh hsl;have HCN:=zh (px g s W R sb l ub eb w0 (HT.out.below hb0) sn hsl);have mi0:(0:Int)<=(m0:Int):=by omega
 have mi1:(m0:Int) < 16:=by omega
 have xi0:(0:Int)<=(x1:Int):=by omega
 have xi1:(x1:Int) < 256:=by omega
 have hwm:IntKind.u64.wrap (m0:Int)=(m0:Int):=by rw[IntKind.wrap_u64];omega
 have hwx:IntKind.u64.wrap (x1:Int)=(x1:Int):=by rw[IntKind.wrap_u64];omega
 have hw8:IntKind.u64.wrap ((m0:Int)*256)=(m0:Int)*256:=by rw[IntKind.wrap_u64];omega
 have hnz:n ≠ 0:=by omega
 have hn1N:1 < n:=by omega
 clear hsl hm0 hsn;refine wp_region_held_drew (S:=fun w'=>Below w.heap.size w w') (by kernel_rfl) ((Below.refl _ w).drew) (fun hHeld=>?_);rw[<-hw0];rw[<-hw0]at hHeld;clear hw0 hb0;refine ba (i:=0) (x:=some 28) (v:=.pointer (some ⟨g,0,none⟩)) rfl ?_;refine ba (i:=1) (x:=some 29) (v:=.slice (some ⟨pb,po,none⟩) n c) rfl ?_;refine az (i:=2) (x:=some 30) (v:=.pointer (some ⟨pb,po,none⟩)) rfl ?_;refine bE (i:=3) (x:=some 31) (v:=.int .u8 (x0:Int)) rfl (.inl ⟨by rfl,fun W hW=>(by have:=(HZC.out W hW).1;go_simp)⟩) ?_;refine az (i:=4) (x:=some 32) (v:=.int .u8 (m0:Int)) rfl ?_;refine az (i:=5) (x:=some 33) (v:=.int .u64 (m0:Int)) rfl ?_;refine az (i:=6) (x:=some 34) (v:=.int .u64 ((m0:Int)*256)) rfl ?_;refine ba (i:=7) (x:=some 35) (v:=.slice (some ⟨pb,po,none⟩) n c) rfl ?_;refine az (i:=8) (x:=some 36) (v:=.pointer (some ⟨pb,po+1,none⟩)) rfl ?_;refine bE (i:=9) (x:=some 37) (v:=.int .u8 (x1:Int)) rfl (.inl ⟨by rfl,fun W hW=>(by have:=(HZC.out W hW).2;go_simp)⟩) ?_;refine az (i:=10) (x:=some 38) (v:=.int .u64 (x1:Int)) rfl ?_;refine az (i:=11) (x:=some 39) (v:=.int .u64 (sn:Int)) rfl ?_;refine aL (i:=12) (x:=some 40) rfl fun K hK=>?_;go_simp;refine(HCN.out).mono ?_;rintro e w3 ⟨hk3,he⟩;have H3:Below w.heap.size w w3:=aa.below HBW0.out hk3 (fun _ h=>h.elim) HBW0.out.size;have htk:=fun(h:¬n < 6)=>(show s.take n z=(match bR s.deliver (fI z) with
  | none=>(6,false,s)
  | some ct=>
   if 16384 < n-2 then (4,false,s) else
   if cj s.C ct.toNat n z=false then (11,false,s) else
   if stored s.L ct=true\/ct < s.deliver then (0,false,{ s with dup:=s.dup+1 }) else
   if aT s.C n=0 then (5,false,s) else
   if 9000 < aT s.C n then (4,false,s) else
   (0,true,{ s with L:=dq ⟨ct,aT s.C n,fun j=>((eC s.C ct.toNat z j:Nat):Int)⟩ s.L,next:=max s.next (ct+1) })) by unfold RS.take;rw[HLS.out,if_neg h,if_neg (by rw[<-HXX.out.1,<-HQ.out];exact fun h=>h h8)];rfl)
 have HTK:=zh (htk hlo);rw[<-HSN.out]at HTK;clear htk;rcases hcc:bR s.deliver sn with _ | cti
 ·rw[hcc]at he HTK;simp only at he;subst he
  exact⟨rfl,br HTK.out (by decide) HT.out (aa.of_below H3)⟩
 rw[hcc]at he HTK;simp only at he;subst he;have hc2:=pH hcc HSL.out;obtain⟨ct,rfl⟩:=Int.eq_ofNat_of_zero_le hc2.1;have hct:ct < 4294967296:=by omega
 dsimp only;refine hK.out _ _ H3 (fun hHeld=>?_);clear hK K hk3 HCN hcc hc2
 try simp only[Act.put,qa,qb,qc]
 refine ba (i:=13) (x:=some 6) (v:=.int .u64 (ct:Int)) rfl ?_;refine wpAnyH_done (by kernel_rfl) ?_ _;have HH3:=zh H3;have HDT:=zh (HDA.out (by rw[HLS.out];omega) ct w3 hct H3);have ci0:(0:Int)<=(ct:Int):=by omega
 have ci1:(ct:Int) < 4294967296:=by omega
 clear H3 hHeld ha15 ho8 z0;simp only[Int.toNat_natCast]at HTK;by_cases hbig:16384 < n-2
 ·rw[if_pos hbig]at HTK;go_wp2_with (go_at_call 74;refine(HDT.out).mono ?_;rintro e w6 ⟨hb6,h6⟩;rw[if_pos hbig]at h6;subst h6);have hb:=HH3.out.trans (hb6.mono HH3.out.size)
  exact⟨rfl,br HTK.out (by decide) HT.out (aa.of_below hb)⟩
 rw[if_neg hbig]at HTK;by_cases hcode:cj s.C ct n z=false
 ·rw[if_pos hcode]at HTK;go_wp2_with (go_at_call 74;refine(HDT.out).mono ?_;rintro e w6 ⟨hb6,h6⟩;rw[if_neg hbig,if_pos hcode]at h6;subst h6);have hb:=HH3.out.trans (hb6.mono HH3.out.size)
  exact⟨rfl,br HTK.out (by decide) HT.out (aa.of_below hb)⟩
 rw[if_neg hcode]at HTK;have HBG:=zh (And.intro hbig hcode);clear hbig hcode;go_upto_region 8 with (go_at_call 74;refine(HDT.out).mono ?_;rintro e w6 ⟨hb6,h6⟩;rw[if_neg HBG.out.1,if_neg HBG.out.2]at h6;obtain⟨A3,c3,rfl,hc3,hF3,hR3⟩:=h6;have HB6:=zh (HH3.out.trans (hb6.mono HH3.out.size));have HC3:=zh hc3;have HF3:=zh hF3;have HR3:=zh hR3;clear hc3 hF3 hR3 hb6)
 have HT6:=zh (HT.out.below HB6.out);have hst:=gl (ct:Int) l;rw[HT6.out.lv]at hst;obtain⟨lv,hlk⟩:∃lv,(Instr.lookup 87 (.map (some sb)) (.int .u64 (ct:Int)) true).run Tryz.prog w6=.ok (.tuple #[lv,.bool (stored s.L (ct:Int))]) w6:=⟨_,by rw[hst];exact iq HT6.out.st (f:=(ct:Int)) ci0 (by omega)⟩
 have e1:=HT6.out.cs;have e2:=HT6.out.cdeliver;have e3:=HT6.out.cdup;have e4:=HT6.out.fr 50;have e5:w6.cell? ⟨g,35,none⟩=some (.bool false):=(HT6.out.cC (j:=35) (by decide)).trans (by rw[show s.C.cell 35=.bool s.C.cm from rfl,HCM.out]);have e6:=HT6.out.cnext;obtain⟨dl,hdl⟩:∃d,d=s.deliver:=⟨_,rfl⟩
 rw[<-hdl]at e2;have hd0:=HT6.out.ok.dup;have hd1:=HDUP.out;have hd00:=hd0.1;have hwd:wrap64 (s.dup+1)=s.dup+1:=by unfold wrap64;omega
 have HEX:=zh (And.intro hdl hd1);clear hd0 hdl
 cases hsb:stored s.L (ct:Int)
 rotate_left
 ·rw[hsb]at hlk;rw[if_pos (Or.inl hsb)]at HTK;clear e2 e6 hst hsb;go_wp2;go_ret
  exact gB HTK.out HT.out HDUP.out HB6.out
 rw[hsb]at hlk hst;have hns:¬stored s.L (ct:Int)=true:=by rw[hsb];decide
 by_cases hcd:(ct:Int) < dl
 ·rw[if_pos (Or.inr (by rw[<-HEX.out.1];exact hcd))]at HTK;clear e6 hst hns hsb;go_wp2;go_ret
  exact gB HTK.out HT.out HDUP.out HB6.out
 rw[if_neg (by rintro (h | h);exact hns h;rw[<-HEX.out.1]at h;exact hcd h)]at HTK;have hfn:bn (ct:Int) l=none:=by cases hf:bn (ct:Int) l with | none=>rfl | some e=>rw[hf]at hst;cases hst
 have HFN:=zh hfn;have HCD:=zh hcd;obtain⟨dn,hdn⟩:∃d,d=aT s.C n:=⟨_,rfl⟩
 have hdnn:dn<=16384:=by rw[hdn];unfold aT ax.least;have:=HBG.out.1;split<;>omega
 obtain⟨zz,hzz⟩:∃f:Nat->Int,f=fun j=>((eC s.C ct z j:Nat):Int):=⟨_,rfl⟩
 have HZZ:=zh (show ∀j,j < dn->0<=zz j/\zz j < 256 from fun j hj=>by
  rw[hdn]at hj;have:=qj HOK.out ct HZ.out (by omega) hj;rw[hzz]
  exact⟨by simp,by simp only;omega⟩)
 have hrow:aD w6 w6.heap.size A3 (aT s.C n) (fun j=>.int .u8 (zz j)):=by rw[hzz];exact HR3.out
 rw[<-hzz]at HTK;rw[<-hdn]at hrow HTK HC3 ⊢;clear hzz hst hns hsb hfn HR3 hdn;go_upto_region 14 with (fail)
 obtain⟨w7,hw7⟩:=af w6.drew
 have hb7:Below w6.heap.size w6 w7:=by rw[hw7];exact(Below.refl _ _).drew
 have HB7:=zh hb7;have HPK:=zh (ng g s W R sb l ub eb w7 (HT6.out.below hb7) HCM.out A3 dn c3 zz (by omega) (hrow.next hb7));have e9:∀W',aa (fun k=>k=sb) w6 W'->W'.cell? ⟨g,43,none⟩=some (.map (some sb)):=fun W' hW=>(hW.cell (p:=⟨g,43,none⟩) HT6.out.blk.lt (fun e=>HT6.out.gs e)).trans HT6.out.cs;have HE9:=zh e9;refine wp_region_held_drew (S:=fun w'=>aa (fun k=>k=sb) w6 w') (by kernel_rfl) (aa.refl.drew) (fun hHeld=>?_);rw[<-hw7];rw[<-hw7]at hHeld;clear hw7 hb7 hrow e9 e1 hlk;refine ba (i:=0) (x:=some 79) (v:=.pointer (some ⟨g,0,none⟩)) rfl ?_;refine az (i:=1) (x:=some 80) (v:=.pointer (some ⟨g,0,none⟩)) rfl ?_;refine az (i:=2) (x:=some 81) (v:=.pointer (some ⟨g,43,none⟩)) rfl ?_;refine bE (i:=3) (x:=some 82) (v:=.map (some sb)) rfl (.inl ⟨by rfl,fun W hW=>(by have:=HE9.out W hW;go_simp)⟩) ?_;refine ba (i:=4) (x:=some 83) (v:=.int .u64 (ct:Int)) rfl ?_;refine ba (i:=5) (x:=some 84) (v:=.pointer (some ⟨g,0,none⟩)) rfl ?_;refine ba (i:=6) (x:=some 85) (v:=.slice A3 dn c3) rfl ?_;refine aL (i:=7) (x:=some 86) rfl fun K hK=>?_;go_simp;refine(HPK.out).mono ?_;rintro e w8 ⟨hb8,h8⟩;have hbw:Below w.heap.size w w8:=HB6.out.trans ((HB7.out.trans (hb8.mono HB7.out.size)).mono HB6.out.size);by_cases hd00:dn=0
 ·rw[if_pos hd00]at h8 HTK;subst h8
  exact⟨rfl,br HTK.out (by decide) HT.out (aa.of_below hbw)⟩
 rw[if_neg hd00]at h8 HTK;by_cases hd90:9000 < dn
 ·rw[if_pos hd90]at h8 HTK;subst h8
  exact⟨rfl,br HTK.out (by decide) HT.out (aa.of_below hbw)⟩
 rw[if_neg hd90]at h8 HTK;obtain⟨A4,c4,rfl,hc4,hF4,hR4⟩:=h8;dsimp only;have H8:aa (fun k=>k=sb) w6 w8:=hHeld.trans (aa.of_below (F:=fun _=>False) hb8) (fun _ _ h=>h.elim);refine hK.out _ _ H8 (fun hHeld=>?_);have HT8:=zh (HT.out.below hbw);obtain⟨w9,hput,hm9,hk9⟩:=j6 HT8.out.st ⟨⟨(ct:Int),dn,zz⟩,A4,c4⟩ ci0 (by show(ct:Int) < _;omega) HFN.out HT8.out.few;have hput2:(Instr.mapUpdate 87 (.map (some sb)) (.int .u64 (ct:Int)) (.slice A4 dn c4)).run Tryz.prog w8=.ok () w9:=hput;have HA4:=zh (And.intro hc4 (And.intro hF4 (And.intro hR4 (And.intro hm9 (And.intro hk9 (And.intro hd00 hd90))))));have HBW:=zh hbw;have H9:aa (fun k=>k=sb) w6 w9:=H8.trans hk9 (fun _ _ h=>h);clear hK K hc4 hF4 hR4 hm9 hb8 hput hbw hd00 hd90
 try simp only[Act.put,qa,qb,qc]
 refine aL (i:=8) (x:=none) rfl fun K hK=>?_;go_simp;refine hK.out _ _ H9 (fun hHeld=>?_);clear hK K hput2
 try simp only[Act.put]
 refine wpAnyH_done (by kernel_rfl) ?_ _;have f1:w9.cell? ⟨g,42,none⟩=some (.int .u64 s.next):=(H9.cell (p:=⟨g,42,none⟩) HT6.out.blk.lt (fun e=>HT6.out.gs e)).trans HT6.out.cnext;have f2:w9.frozen? ⟨g,42,none⟩=false:=(H9.blk HT6.out.blk (fun e=>HT6.out.gs e)).frozen 42;have hwc:IntKind.u64.wrap ((ct:Int)+1)=(ct:Int)+1:=by rw[IntKind.wrap_u64];omega
 clear H8 H9 hHeld e3 e4 e5 e6;go_wp2;go_ret
 exact mA HTK.out HT.out HBW.out HA4.out.2.2.2.2.1 HA4.out.2.2.2.1 HFN.out (by have:=HCD.out;rw[HEX.out.1]at this;omega) (by omega) (by have:=HA4.out.2.2.2.2.2.1;omega) (by have:=HA4.out.2.2.2.2.2.2;omega) HA4.out.1 HZZ.out HA4.out.2.2.1 (fun a ha=>a9 (a9 HB6.out.size HB7.out.size) (HA4.out.2.1 a ha))
end Go.Proofs.YtbfpdnnphdagjaaGreat
