import Derived.Test.YtbfpdnnphdagjaaGreatMYHy
import Derived.Test.YtbfpdnnphdagjaaGreatMDMy
import Derived.StillTailTactics
import Derived.Test.YtbfpdnnphdagjaaGreatB1y
set_option maxRecDepth 100000
set_option maxHeartbeats 6400000
set_option linter.unusedVariables false
set_option linter.unusedSimpArgs false
namespace Go.Proofs.YtbfpdnnphdagjaaGreat
open Go.RowKit
theorem Av (a b:Nat) (ha:a < 256) (hb:b < 256):bits .or .u32 ((a:Int)*16777216) ((b:Int)*65536)=((a*256+b:Nat):Int)*65536:=by
 have h:=u32_or_nat (a*16777216) (b*65536) (by omega) (by omega);have h2:=Nat.shiftLeft_add_eq_or_of_lt (i:=24) (b:=b*65536) (by omega) a;rw[Nat.shiftLeft_eq]at h2;rw[show(a:Int)*16777216=((a*16777216:Nat):Int) by omega,show(b:Int)*65536=((b*65536:Nat):Int) by omega,h,<-h2];omega
theorem Ar (x b:Nat) (hx:x < 65536) (hb:b < 256):bits .or .u32 ((x:Int)*65536) ((b:Int)*256)=((x*256+b:Nat):Int)*256:=by
 have h:=u32_or_nat (x*65536) (b*256) (by omega) (by omega);have h2:=Nat.shiftLeft_add_eq_or_of_lt (i:=16) (b:=b*256) (by omega) x;rw[Nat.shiftLeft_eq]at h2;rw[show(x:Int)*65536=((x*65536:Nat):Int) by omega,show(b:Int)*256=((b*256:Nat):Int) by omega,h,<-h2];omega
theorem zW (x b:Nat) (hx:x < 16777216) (hb:b < 256):bits .or .u32 ((x:Int)*256) (b:Int)=((x*256+b:Nat):Int):=by
 have h:=u32_or_nat (x*256) b (by omega) (by omega);have h2:=Nat.shiftLeft_add_eq_or_of_lt (i:=8) (b:=b) (by omega) x;rw[Nat.shiftLeft_eq]at h2;rw[show(x:Int)*256=((x*256:Nat):Int) by omega,h,<-h2]
end Go.Proofs.YtbfpdnnphdagjaaGreat
namespace Go.Proofs.YtbfpdnnphdagjaaGreat
open Go.RowKit
attribute [local go_sem] Oper.semAt_some
theorem pG (sb m n c1 c2:Nat) (A1 A2:Option Addr) (f z:Nat->Nat) (hm:0 < m+n) (hn:m+n<=1000000) (w:World) (hsb:sb < w.heap.size) (e0:w.cell? ⟨sb,0,none⟩=some (.slice A1 m c1)) (e1:w.cell? ⟨sb,1,none⟩=some (.slice A2 n c2)) (hh:aD w w.heap.size A1 m (fun j=>.int .u8 ((f j:Nat):Int))) (hr:aD w w.heap.size A2 n (fun j=>.int .u8 ((z j:Nat):Int))) :
  Calls Tryz.prog 68 #[.slice (some ⟨sb,0,none⟩) 2 2] w fun e w'=>∃A c3,e=.returned (.slice A (m+n) c3)/\aD w' w'.heap.size A (m+n) (fun j=>.int .u8 ((bD f m z j:Nat):Int))/\Below w.heap.size w w':=by
 have ht:i8 (fun k=>if k=0 then m else n) 2=m+n:=by
  show 0+m+n=m+n;omega
 refine(ji 2 sb (fun k=>if k=0 then A1 else A2) (fun k=>if k=0 then m else n) (fun k=>if k=0 then c1 else c2) (fun k j=>if k=0 then ((f j:Nat):Int) else ((z j:Nat):Int)) (by decide) (by rw[ht];omega) (by rw[ht];omega) w hsb (fun k hk=>?_) (fun k hk=>?_)).mono ?_
 ·rcases (by omega:k=0\/k=1)with rfl | rfl
  ·exact e0
  ·exact e1
 ·rcases (by omega:k=0\/k=1)with rfl | rfl
  ·exact hh
  ·exact hr
 ·rintro e w' ⟨v,he,ho,hB⟩;rw[ht]at ho;obtain⟨A3,c3,hv,hcap,_,_,hrow⟩:=iM (f:=fun j=>.int .u8 ((bD f m z j:Nat):Int)) ho (fun j hj=>by
   rw[jQ _ _ 2 j (by rw[ht];exact hj)];unfold bD;show some (Value.int .u8 (if j < 0+m then (if j < 0 then _ else ((f (j-0):Nat):Int)) else ((z (j-(0+m)):Nat):Int)))=_;by_cases h2:j < m
   ·rw[if_pos (by omega),if_neg (by omega),if_pos h2,Nat.sub_zero]
   ·rw[if_neg (by omega),if_neg h2,Nat.zero_add])
  exact⟨A3,c3,by rw[he,hv],hrow,hB⟩
theorem p9 (b o m c k:Nat) (hk:k<=m) (hmc:m<=c) (w:World):(Instr.slice 41 (.slice (some ⟨b,o,none⟩) m c) none (some (.int .i64 (k:Int))) none).run Tryz.prog w=.ok (.slice (some ⟨b,o,none⟩) k c) w:=by
 have h0:(0:Int)<=(k:Int):=by omega
 have h1:(k:Int)<=(c:Int):=by omega
 simp[go_sem,h0,h1]
theorem uF (b o m c:Nat) (hk:2<=m) (hmc:m<=c) (w:World):(Instr.slice 41 (.slice (some ⟨b,o,none⟩) m c) none (some (.int .i64 2)) none).run Tryz.prog w=.ok (.slice (some ⟨b,o,none⟩) 2 c) w:=p9 b o m c 2 hk hmc w
theorem zf (g:Nat) (s:RS) (W R:Nat->Prop) (sb:Nat) (l:List SE) (ub eb:Nat) (w:World) (h:aN w g s W R sb l ub eb) (hok:s.C.Ok) (hv:s.C.Valid) (hig:s.C.ig=true) (ct:Nat) (hct:ct < 4294967296)
  (A:Option Addr) (n c:Nat) (z:Nat->Nat) (hn6:6<=n) (hn9:n<=16386) (hnc:n<=c) (hz:∀j,j < n->z j < 256) (hr:aD w w.heap.size A n (fun j=>.int .u8 ((z j:Nat):Int))) :
  Calls Tryz.prog 74 #[.pointer (some ⟨g,0,none⟩),.int .u32 ct,.slice A n c] w (xN s.C ct n z w):=by
 have hn:2<=n:=by omega
 have HN6:=zh (And.intro hn6 hn9);have HKC:Hid (bw (nf s.C.code)):=zh (fun j hj=>dZ hok.code hj);have HT:=zh h;have HZ:=zh hz;have HIG:=zh hig;have HKL:Hid (bw (nf s.C.key)):=zh (fun j hj=>dZ hok.key hj);obtain⟨B,hB⟩:∃B:Nat,B=s.C.b.toNat:=⟨_,rfl⟩
 obtain⟨D,hD⟩:∃D:Nat,D=s.C.d.toNat:=⟨_,rfl⟩
 have HB:=zh hB;have HD:=zh hD;have HBI:Hid (s.C.b=(B:Int)):=zh (by rw[hB];have:=hv.1;omega);have HDI:Hid (s.C.d=(D:Int)):=zh (by rw[hD];have:=hv.2.2.1;omega);have HBL:Hid (B < 32):=zh (by rw[hB];have:=hv.2.1;omega);have HDL:Hid (D < 2):=zh (by rw[hD];have:=hv.2.2.1;omega);have HCT:=zh hct;obtain⟨pb,po,rfl,hpb,hpc⟩:=hr (by omega);obtain⟨lo2,hs2,hlo2⟩:=wX pb po n c hn hnc;have HSL:=zh hs2;have HR2:Hid (aD w w.heap.size (some ⟨pb,lo2,none⟩) (n-2) (fun j=>.int .u8 ((z (2+j):Nat):Int))):=zh (fun hne=>⟨pb,lo2,rfl,hpb,fun j hj=>by
  rw[hlo2 (by omega),Nat.add_assoc]
  exact hpc (2+j) (by omega)⟩)
 have HN:=zh (And.intro hn hnc);have HPC:Hid (aD w w.heap.size (some ⟨pb,po,none⟩) 2 (fun j=>.int .u8 ((z j:Nat):Int))):=zh (fun _=>⟨pb,po,rfl,hpb,fun j hj=>hpc j (by omega)⟩);clear h hz hig hB hD hv hct hr hpb hpc hs2 hlo2 hnc hn hn6 hn9;obtain⟨w0,hw0⟩:=af w.drew
 have hb0:Below w.heap.size w w0:=by rw[hw0];exact(Below.refl _ _).drew
 have HKR:=zh (show ∀W',Below w.heap.size w W'->W'.rangeAt g 2 (av (nf s.C.key)).toList from fun W' hW j v hv=>by
  have hj:j < 16:=by have:=(List.getElem?_eq_some_iff.1 hv).1;rw[Array.length_toList,ak]at this;exact this
  rw[(HT.out.below hW).cC (j:=2+j) (by omega),<-hv,Array.getElem?_toList,aX _ hj];unfold ax.cell;rw[if_neg (by omega),if_neg (by omega),if_pos (by omega),show 2+j-2=j by omega,dO hok.key hj])
 have HC0:=zh (show ∀W',Below w.heap.size w W'->W'.cell? ⟨g,0,none⟩=some (.int .i64 (B:Int))from fun W' hW=>((HT.out.below hW).cC (j:=0) (by decide)).trans (by rw[show s.C.cell 0=.int .i64 s.C.b from rfl,HBI.out]));have HC1:=zh (show ∀W',Below w.heap.size w W'->W'.cell? ⟨g,1,none⟩=some (.int .i64 (D:Int))from fun W' hW=>((HT.out.below hW).cC (j:=1) (by decide)).trans (by rw[show s.C.cell 1=.int .i64 s.C.d from rfl,HDI.out]));have HS16:Hid ((Tryz.prog.info? 23).map (·.size)=some (av (nf s.C.key)).toList.length):=zh (by rw[Array.length_toList,ak];kernel_rfl);have HUK:=zh Tryz.underlying23;have HCR:=zh (mE (nf s.C.key) ct B D HKL.out HCT.out HBL.out HDL.out (some ⟨pb,lo2,none⟩) (n-2) (c-2) (fun j=>z (2+j)) (fun j hj=>HZ.out _ (by have:=HN.out;omega)) w0 (HR2.out.next hb0));have c34:∀W',Below w.heap.size w W'->W'.cell? ⟨g,34,none⟩=some (.bool true):=fun W' hW=>((HT.out.below hW).cC (j:=34) (by decide)).trans (by rw[show s.C.cell 34=.bool s.C.ig from rfl,HIG.out]);have HC34:=zh c34;have HBW0:=zh hb0;clear c34;have HKR3:=zh (show ∀W',Below w.heap.size w W'->W'.rangeAt g 18 (av (nf s.C.code)).toList from fun W' hW j v hv=>by
  have hj:j < 16:=by have:=(List.getElem?_eq_some_iff.1 hv).1;rw[Array.length_toList,ak]at this;exact this
  rw[(HT.out.below hW).cC (j:=18+j) (by omega),<-hv,Array.getElem?_toList,aX _ hj];unfold ax.cell;rw[if_neg (by omega),if_neg (by omega),if_neg (by omega),if_pos (by omega),show 18+j-18=j by omega,dO hok.code hj])
 have HS163:Hid ((Tryz.prog.info? 23).map (·.size)=some (av (nf s.C.code)).toList.length):=zh (by rw[Array.length_toList,ak];kernel_rfl);have HCODE:=zh (fun A2 n2 c2 z2 V=>ss (nf s.C.code) ct B D HKC.out HCT.out HBL.out HDL.out A2 n2 c2 z2 V);go_enter Tryz.func74,Tryz.ntmps74;go_upto_region 1 with (fail)
 refine wp_region_held_drew (S:=fun w'=>Below w.heap.size w w') (by kernel_rfl) ((Below.refl _ w).drew) (fun hHeld=>?_);rw[<-hw0];rw[<-hw0]at hHeld;clear hw0 hb0;refine ba (i:=0) (x:=some 13) (v:=.pointer (some ⟨g,0,none⟩)) rfl ?_;refine az (i:=1) (x:=some 14) (v:=.pointer (some ⟨g,0,none⟩)) rfl ?_;refine az (i:=2) (x:=some 15) (v:=.pointer (some ⟨g,0,none⟩)) rfl ?_;refine az (i:=3) (x:=some 16) (v:=.pointer (some ⟨g,2,none⟩)) rfl ?_;refine' bE (i:=4) (x:=some 17) (v:=_) rfl (yieldsIf_load_mid (by rfl) _ _ rfl g 2 rfl (av (nf s.C.key)).toList _ (fun w h=>HKR.out w h) HUK.out rfl HS16.out) ?_;refine ba (i:=5) (x:=some 18) (v:=.int .u32 ct) rfl ?_;refine ba (i:=6) (x:=some 19) (v:=.pointer (some ⟨g,0,none⟩)) rfl ?_;refine az (i:=7) (x:=some 20) (v:=.pointer (some ⟨g,0,none⟩)) rfl ?_;refine az (i:=8) (x:=some 21) (v:=.pointer (some ⟨g,0,none⟩)) rfl ?_;refine az (i:=9) (x:=some 22) (v:=.pointer (some ⟨g,0,none⟩)) rfl ?_;refine bE (i:=10) (x:=some 23) (v:=.int .i64 (B:Int)) rfl (.inl ⟨by rfl,fun W hW=>(by have:=HC0.out W hW;go_simp)⟩) ?_;refine ba (i:=11) (x:=some 24) (v:=.pointer (some ⟨g,0,none⟩)) rfl ?_;refine az (i:=12) (x:=some 25) (v:=.pointer (some ⟨g,0,none⟩)) rfl ?_;refine az (i:=13) (x:=some 26) (v:=.pointer (some ⟨g,0,none⟩)) rfl ?_;refine az (i:=14) (x:=some 27) (v:=.pointer (some ⟨g,1,none⟩)) rfl ?_;refine bE (i:=15) (x:=some 28) (v:=.int .i64 (D:Int)) rfl (.inl ⟨by rfl,fun W hW=>(by have:=HC1.out W hW;go_simp)⟩) ?_;refine ba (i:=16) (x:=some 29) (v:=.slice (some ⟨pb,po,none⟩) n c) rfl ?_;refine bE (i:=17) (x:=some 30) (v:=.slice (some ⟨pb,lo2,none⟩) (n-2) (c-2)) rfl (.inl ⟨by rfl,fun W hW=>(by have:=HSL.out W;unfold execOp;simp only[Act.eval,go_sem];simp[go_sem,this])⟩) ?_;refine aL (i:=18) (x:=some 31) rfl fun K hK=>?_;go_simp;refine(HCR.out).mono ?_;rintro e w3 ⟨A3,m3,c3,er,rfl,hB3,h4,h5⟩;dsimp only;have HB3:=zh hB3;have H45:=zh (And.intro h4 h5);have H3:Below w.heap.size w w3:=hHeld.trans (hB3.mono HBW0.out.size);refine hK.out _ _ H3 (fun hHeld=>?_);clear hK K h4 h5 hB3
 try simp only[Act.put,qa,qb,qc]
 refine ba (i:=19) (x:=some 12) (v:=.tuple #[.slice A3 m3 c3,.int .i64 er]) rfl ?_;refine az (i:=20) (x:=some 32) (v:=.slice A3 m3 c3) rfl ?_;refine ba (i:=22) (x:=some 7) (v:=.slice A3 m3 c3) rfl ?_;refine az (i:=21) (x:=some 33) (v:=.int .i64 er) rfl ?_;refine ba (i:=23) (x:=some 8) (v:=.int .i64 er) rfl ?_;refine wpAnyH_done (by kernel_rfl) ?_ _;have HH3:=zh H3;have c34:=HC34.out w3 H3;clear H3 hHeld;have hbig:¬16384 < n-2:=by have:=HN6.out;omega
 obtain⟨rfl,rfl,hc3,hF3,hR3⟩:=H45.out.2 (by omega);have HCF:=zh (fun j (hj:j < n-2)=>show fy (nf s.C.key) ct B D (fun j=>z (2+j)) j < 256 from nO HKL.out ct B D (HZ.out _ (by omega)));obtain⟨dz,hdz⟩:∃dz,dz=fy (nf s.C.key) ct B D (fun j=>z (2+j)):=⟨_,rfl⟩
 have HDZ:Hid (dz=eC s.C ct z):=zh (by rw[hdz,HB.out,HD.out];rfl);rw[<-hdz]at hR3 HCF;have HR3:=zh hR3;have HF3:=zh (show ∀a,A3=some a->w.heap.size<=a.block from fun a ha=>a9 HBW0.out.size (hF3 a ha));have HC3:=zh hc3;obtain⟨lb,lo,hAA,hlb,hlc⟩:=hR3 (by have:=HN6.out;omega);subst hAA;have HLB:=zh hlb;clear hc3 hF3 hR3 hdz HCR H45;obtain⟨m,hm⟩:=af (n-2)
 obtain⟨q,hq⟩:=af (n-6)
 have hmq:m=q+4:=by have:=HN6.out;omega
 have HMQ:=zh (And.intro hm (And.intro hq hmq));rw[<-hm]at HC3 HCF HR3 hlc ⊢;have hq0:(m:Int)-4=(q:Int):=by omega
 have hq2:q<=16380:=by have:=HN6.out;omega
 have hq1:(0:Int)<=(q:Int):=by omega
 have hq3:(q:Int)<=16380:=by omega
 have hm3:(m:Int)<=16384:=by omega
 have hqm:(q:Int)<=(m:Int):=by omega
 have hmc3:m<=c3:=HC3.out;have hqc3:(q:Int)<=(c3:Int):=by omega
 have hmc3':(m:Int)<=(c3:Int):=by omega
 clear hm hq hmq;go_upto_region 6 with (first | (go_at_call 72;with_reducible refine(aB _ _).mono ?_;rintro e w5 ⟨rfl,hw5⟩;subst hw5) | (go_at_call 72;with_reducible refine(aA _ _).mono ?_;rintro e w5 ⟨rfl,hw5⟩;subst hw5))
 obtain⟨w0',hw0'⟩:=af w5.drew
 have hb0':Below w5.heap.size w5 w0':=by rw[hw0'];exact(Below.refl _ _).drew
 have HB0':=zh hb0';refine wp_region_held_drew (S:=fun w'=>Below w5.heap.size w5 w') (by kernel_rfl) ((Below.refl _ w5).drew) (fun hHeld=>?_);rw[<-hw0'];rw[<-hw0']at hHeld;clear hw0' hb0' c34;have HKR4:=zh (show ∀W',Below w5.heap.size w5 W'->W'.rangeAt g 18 (av (nf s.C.code)).toList from fun W' hW=>HKR3.out W' (HH3.out.trans (hW.mono HH3.out.size)));have HC04:=zh (show ∀W',Below w5.heap.size w5 W'->W'.cell? ⟨g,0,none⟩=some (.int .i64 (B:Int))from fun W' hW=>HC0.out W' (HH3.out.trans (hW.mono HH3.out.size)));have HC14:=zh (show ∀W',Below w5.heap.size w5 W'->W'.cell? ⟨g,1,none⟩=some (.int .i64 (D:Int))from fun W' hW=>HC1.out W' (HH3.out.trans (hW.mono HH3.out.size)));have HSLT:=zh (fun W=>uF pb po n c HN.out.1 HN.out.2 W);have HSLQ:=zh (fun W=>p9 lb lo m c3 q (by have:=HMQ.out;omega) HC3.out W);refine ba (i:=0) (x:=some 49) (v:=.pointer (some ⟨g,0,none⟩)) rfl ?_;refine az (i:=1) (x:=some 50) (v:=.pointer (some ⟨g,0,none⟩)) rfl ?_;refine az (i:=2) (x:=some 51) (v:=.pointer (some ⟨g,0,none⟩)) rfl ?_;refine az (i:=3) (x:=some 52) (v:=.pointer (some ⟨g,18,none⟩)) rfl ?_;refine' bE (i:=4) (x:=some 53) (v:=_) rfl (yieldsIf_load_mid (by rfl) _ _ rfl g 18 rfl (av (nf s.C.code)).toList _ (fun w h=>HKR4.out w h) HUK.out rfl HS163.out) ?_;refine ba (i:=5) (x:=some 54) (v:=.int .u32 ct) rfl ?_;refine ba (i:=6) (x:=some 55) (v:=.pointer (some ⟨g,0,none⟩)) rfl ?_;refine az (i:=7) (x:=some 56) (v:=.pointer (some ⟨g,0,none⟩)) rfl ?_;refine az (i:=8) (x:=some 57) (v:=.pointer (some ⟨g,0,none⟩)) rfl ?_;refine az (i:=9) (x:=some 58) (v:=.pointer (some ⟨g,0,none⟩)) rfl ?_;refine bE (i:=10) (x:=some 59) (v:=.int .i64 (B:Int)) rfl (.inl ⟨by rfl,fun W hW=>(by have:=HC04.out W hW;go_simp)⟩) ?_;refine ba (i:=11) (x:=some 60) (v:=.pointer (some ⟨g,0,none⟩)) rfl ?_;refine az (i:=12) (x:=some 61) (v:=.pointer (some ⟨g,0,none⟩)) rfl ?_;refine az (i:=13) (x:=some 62) (v:=.pointer (some ⟨g,0,none⟩)) rfl ?_;refine az (i:=14) (x:=some 63) (v:=.pointer (some ⟨g,1,none⟩)) rfl ?_;refine bE (i:=15) (x:=some 64) (v:=.int .i64 (D:Int)) rfl (.inl ⟨by rfl,fun W hW=>(by have:=HC14.out W hW;go_simp)⟩) ?_;refine ba (i:=16) (x:=some 65) (v:=.slice (some ⟨pb,po,none⟩) n c) rfl ?_;refine bE (i:=17) (x:=some 66) (v:=.slice (some ⟨pb,po,none⟩) 2 c) rfl (.inl ⟨by rfl,fun W hW=>(by have:=HSLT.out W;unfold execOp;simp only[Act.eval,go_sem];simp[go_sem,this])⟩) ?_;refine ba (i:=18) (x:=some 67) (v:=.slice (some ⟨lb,lo,none⟩) m c3) rfl ?_;refine ba (i:=19) (x:=some 68) (v:=.int .i64 (q:Int)) rfl ?_;refine bE (i:=20) (x:=some 69) (v:=.slice (some ⟨lb,lo,none⟩) q c3) rfl (.inl ⟨by rfl,fun W hW=>(by have:=HSLQ.out W;unfold execOp;simp only[Act.eval,go_sem];simp[go_sem,this])⟩) ?_;refine aL (i:=21) (x:=some 70) rfl fun K hK=>?_;go_simp;obtain⟨u1,hu1⟩:∃X,X=w0'.alloc (.cells #[.slice (some ⟨pb,po,none⟩) 2 c,.slice (some ⟨lb,lo,none⟩) q c3] 41):=⟨_,rfl⟩
 obtain⟨vb,hvb⟩:=af w0'.heap.size
 have HV1:=zh (show ae u1 vb 41 #[.slice (some ⟨pb,po,none⟩) 2 c,.slice (some ⟨lb,lo,none⟩) q c3] by rw[hu1,hvb];exact ae.new _ _ _);have hE1:Below w5.heap.size w5 u1:=by rw[hu1];exact hHeld.alloc hHeld.size _
 rw[<-hu1,<-hvb];refine hK.out _ _ hE1 (fun hHeld=>?_);clear hK K hu1 hvb
 try simp only[Act.put,qa,qb,qc]
 refine aL (i:=22) (x:=some 71) rfl fun K hK=>?_;go_simp;refine(pG vb 2 q c c3 (some ⟨pb,po,none⟩) (some ⟨lb,lo,none⟩) z dz (by omega) (by omega) u1 HV1.out.lt (HV1.out.cell 0) (HV1.out.cell 1) (HPC.out.next (HH3.out.trans (hE1.mono HH3.out.size))) (fun hq0=>⟨lb,lo,rfl,bp HLB.out hE1.size,fun j hj=>(hE1.cell (p:=⟨lb,lo+j,none⟩) HLB.out).trans (hlc j (by omega))⟩)).mono ?_;rintro e u2 ⟨A5,c5,rfl,hR5,hB5⟩;dsimp only;have hE2:Below w5.heap.size w5 u2:=hE1.trans (hB5.mono hE1.size);refine hK.out _ _ hE2 (fun hHeld=>?_);clear hK K hB5
 try simp only[Act.put,qa,qb,qc]
 refine aL (i:=23) (x:=some 72) rfl fun K hK=>?_;go_simp;refine(HCODE.out A5 (2+q) c5 (bD z 2 dz) u2 (by omega) (gE (fun j hj=>HZ.out j (by have:=HN6.out;omega)) (fun j hj=>HCF.out j (by omega))) hR5).mono ?_;rintro e u3 ⟨rfl,hB6⟩;dsimp only;have hE3:Below w5.heap.size w5 u3:=hE2.trans (hB6.mono hE2.size);have HWM:Hid (di (nf s.C.code) ct B D (bD z 2 dz) (2+q)=iJ s.C ct n z):=zh (by
  have hdn:aT s.C n=q:=by unfold aT ax.least;rw[HIG.out,HMQ.out.2.1];rfl
  unfold iJ;rw[hdn,HDZ.out,HB.out,HD.out])
 rw[HWM.out];refine hK.out _ _ hE3 (fun hHeld=>?_);clear hK K hB6
 try simp only[Act.put,qa,qb,qc]
 refine ba (i:=24) (x:=some 48) (v:=.tuple #[.int .u32 ((iJ s.C ct n z:Nat):Int),.int .i64 0]) rfl ?_;refine az (i:=25) (x:=some 73) (v:=.int .u32 ((iJ s.C ct n z:Nat):Int)) rfl ?_;refine ba (i:=27) (x:=some 10) (v:=.int .u32 ((iJ s.C ct n z:Nat):Int)) rfl ?_;refine az (i:=26) (x:=some 74) (v:=.int .i64 0) rfl ?_;refine ba (i:=28) (x:=some 8) (v:=.int .i64 0) rfl ?_;refine wpAnyH_done (by kernel_rfl) ?_ _;have HE3:=zh (HH3.out.trans (hE3.mono HH3.out.size));have hF:∀j,j < 4->u3.cell? ⟨lb,lo+q+j,none⟩=some (.int .u8 ((dz (q+j):Nat):Int)):=fun j hj=>by
  rw[Nat.add_assoc]
  exact(hE3.cell (p:=⟨lb,lo+(q+j),none⟩) HLB.out).trans (hlc (q+j) (by omega))
 have HRO:=zh (show aD u3 u3.heap.size (some ⟨lb,lo,none⟩) q (fun j=>.int .u8 ((dz j:Nat):Int))from fun _=>⟨lb,lo,rfl,bp HLB.out hE3.size,fun j hj=>(hE3.cell (p:=⟨lb,lo+j,none⟩) HLB.out).trans (hlc j (by omega))⟩);have y0:=hF 0 (by decide);have y1:=hF 1 (by decide);have y2:=hF 2 (by decide);have y3:=hF 3 (by decide);rw[Nat.add_zero]at y0;have b0:=HCF.out (q+0) (by omega);have b1:=HCF.out (q+1) (by omega);have b2:=HCF.out (q+2) (by omega);have b3:=HCF.out (q+3) (by omega);have HHM:Hid (tY s.C ct n z=((dz (q+0)*256+dz (q+1))*256+dz (q+2))*256+dz (q+3)):=zh (by
  have hdn:aT s.C n=q:=by unfold aT ax.least;rw[HIG.out,HMQ.out.2.1];rfl
  unfold tY;rw[hdn,<-HDZ.out];simp only;omega)
 generalize dz (q+0)=f0 at y0 b0 HHM;generalize dz (q+1)=f1 at y1 b1 HHM;generalize dz (q+2)=f2 at y2 b2 HHM;generalize dz (q+3)=f3 at y3 b3 HHM;have HY:=zh (show ∀W',Below u3.heap.size u3 W'->W'.cell? ⟨lb,lo+q,none⟩=some (.int .u8 (f0:Int))/\W'.cell? ⟨lb,lo+q+1,none⟩=some (.int .u8 (f1:Int))/\W'.cell? ⟨lb,lo+q+2,none⟩=some (.int .u8 (f2:Int))/\W'.cell? ⟨lb,lo+q+3,none⟩=some (.int .u8 (f3:Int))from fun W' hW=>⟨(hW.cell (p:=⟨lb,lo+q,none⟩) (bp HLB.out hE3.size)).trans y0,(hW.cell (p:=⟨lb,lo+q+1,none⟩) (bp HLB.out hE3.size)).trans y1,(hW.cell (p:=⟨lb,lo+q+2,none⟩) (bp HLB.out hE3.size)).trans y2,(hW.cell (p:=⟨lb,lo+q+3,none⟩) (bp HLB.out hE3.size)).trans y3⟩);have o1:=Av f0 f1 b0 b1;have o2:=Ar (f0*256+f1) f2 (by omega) b2;have o3:=zW ((f0*256+f1)*256+f2) f3 (by omega) b3;rw[<-HHM.out]at o3;generalize (f0*256+f1)*256+f2=x2 at o2 o3;generalize f0*256+f1=x1 at o1 o2;have v0:IntKind.u32.wrap (f0:Int)=(f0:Int):=by simp[IntKind.wrap_u32];omega
 have v1:IntKind.u32.wrap (f1:Int)=(f1:Int):=by simp[IntKind.wrap_u32];omega
 have v2:IntKind.u32.wrap (f2:Int)=(f2:Int):=by simp[IntKind.wrap_u32];omega
 have v3:IntKind.u32.wrap (f3:Int)=(f3:Int):=by simp[IntKind.wrap_u32];omega
 have s0:IntKind.u32.wrap ((f0:Int)*16777216)=(f0:Int)*16777216:=by simp[IntKind.wrap_u32];omega
 have s1:IntKind.u32.wrap ((f1:Int)*65536)=(f1:Int)*65536:=by simp[IntKind.wrap_u32];omega
 have s2:IntKind.u32.wrap ((f2:Int)*256)=(f2:Int)*256:=by simp[IntKind.wrap_u32];omega
 have i0:(0:Int)<=(f0:Int):=by omega
 have j0:(f0:Int) < 256:=by omega
 have i1:(0:Int)<=(f1:Int):=by omega
 have j1:(f1:Int) < 256:=by omega
 have i2:(0:Int)<=(f2:Int):=by omega
 have j2:(f2:Int) < 256:=by omega
 have i3:(0:Int)<=(f3:Int):=by omega
 have j3:(f3:Int) < 256:=by omega
 obtain⟨hM,hHM⟩:=af (tY s.C ct n z)
 obtain⟨wM,hWM⟩:=af (iJ s.C ct n z)
 rw[<-hHM]at o3;rw[<-hWM];have HMM:=zh (And.intro hHM hWM);have hqc4:q < c3:=by omega
 have hqc5:¬c3<=q:=by omega
 have hqc6:(q:Int) < (c3:Int):=by omega
 have hsub:(m:Int)-(q:Int)=4:=by have:=HMQ.out;omega
 have hsub2:m-q=4:=by have:=HMQ.out;omega
 have hqe:¬c3-q=0:=by omega
 clear y0 y1 y2 y3 hHM hWM hlc hF hE1 hE2 hE3 hR5 hHeld HCODE HHM HWM;go_upto_region 9 with (first | (go_at_call 72;with_reducible refine(aB _ _).mono ?_;rintro e w5 ⟨rfl,hw5⟩;subst hw5) | (go_at_call 72;with_reducible refine(aA _ _).mono ?_;rintro e w5 ⟨rfl,hw5⟩;subst hw5))
 obtain⟨bb,hbb⟩:∃bb:Bool,((wM:Int) == (hM:Int))=bb:=⟨_,rfl⟩
 refine wp_region_held_drew (S:=fun w'=>Below w5.heap.size w5 w') (by kernel_rfl) ((Below.refl _ w5).drew) (fun hHeld=>?_);refine ba (i:=0) (x:=some 82) (v:=.int .u32 (wM:Int)) rfl ?_;refine ba (i:=1) (x:=some 83) (v:=.slice (some ⟨lb,lo+q,none⟩) 4 (c3-q)) rfl ?_;refine az (i:=2) (x:=some 84) (v:=.pointer (some ⟨lb,lo+q,none⟩)) rfl ?_;refine bE (i:=3) (x:=some 85) (v:=.int .u8 (f0:Int)) rfl (.inl ⟨by rfl,fun W hW=>(by have:=(HY.out W hW).1;go_simp)⟩) ?_;refine az (i:=4) (x:=some 86) (v:=.int .u32 (f0:Int)) rfl ?_;refine az (i:=5) (x:=some 87) (v:=.int .u32 ((f0:Int)*16777216)) rfl ?_;refine ba (i:=6) (x:=some 88) (v:=.slice (some ⟨lb,lo+q,none⟩) 4 (c3-q)) rfl ?_;refine az (i:=7) (x:=some 89) (v:=.pointer (some ⟨lb,lo+q+1,none⟩)) rfl ?_;refine bE (i:=8) (x:=some 90) (v:=.int .u8 (f1:Int)) rfl (.inl ⟨by rfl,fun W hW=>(by have:=(HY.out W hW).2.1;go_simp)⟩) ?_;refine az (i:=9) (x:=some 91) (v:=.int .u32 (f1:Int)) rfl ?_;refine az (i:=10) (x:=some 92) (v:=.int .u32 ((f1:Int)*65536)) rfl ?_;refine az (i:=11) (x:=some 93) (v:=.int .u32 ((x1:Int)*65536)) rfl ?_;refine ba (i:=12) (x:=some 94) (v:=.slice (some ⟨lb,lo+q,none⟩) 4 (c3-q)) rfl ?_;refine az (i:=13) (x:=some 95) (v:=.pointer (some ⟨lb,lo+q+2,none⟩)) rfl ?_;refine bE (i:=14) (x:=some 96) (v:=.int .u8 (f2:Int)) rfl (.inl ⟨by rfl,fun W hW=>(by have:=(HY.out W hW).2.2.1;go_simp)⟩) ?_;refine az (i:=15) (x:=some 97) (v:=.int .u32 (f2:Int)) rfl ?_;refine az (i:=16) (x:=some 98) (v:=.int .u32 ((f2:Int)*256)) rfl ?_;refine az (i:=17) (x:=some 99) (v:=.int .u32 ((x2:Int)*256)) rfl ?_;refine ba (i:=18) (x:=some 100) (v:=.slice (some ⟨lb,lo+q,none⟩) 4 (c3-q)) rfl ?_;refine az (i:=19) (x:=some 101) (v:=.pointer (some ⟨lb,lo+q+3,none⟩)) rfl ?_;refine bE (i:=20) (x:=some 102) (v:=.int .u8 (f3:Int)) rfl (.inl ⟨by rfl,fun W hW=>(by have:=(HY.out W hW).2.2.2;go_simp)⟩) ?_;refine az (i:=21) (x:=some 103) (v:=.int .u32 (f3:Int)) rfl ?_;refine az (i:=22) (x:=some 104) (v:=.int .u32 (hM:Int)) rfl ?_;refine az (i:=23) (x:=some 105) (v:=.bool bb) rfl ?_;refine aL (i:=24) (x:=some 106) rfl fun K hK=>?_;go_simp;have hdn:aT s.C n=q:=by unfold aT ax.least;rw[HIG.out,HMQ.out.2.1];rfl
 cases bb
 ·refine(aA _ _).mono ?_;rintro e w6 ⟨rfl,hw6⟩;subst hw6;refine⟨rfl,HE3.out.trans (hHeld.mono HE3.out.size),?_⟩;rw[if_neg hbig,if_pos (by unfold cj;rw[HIG.out,<-HMM.out.1,<-HMM.out.2];have hne:¬wM=hM:=(by intro h;rw[h]at hbb;simp at hbb);simp[hne])]
 ·refine(aB _ _).mono ?_;rintro e w6 ⟨rfl,hw6⟩;subst hw6;dsimp only;have HD3:=zh (HE3.out.trans (hHeld.mono HE3.out.size));have HRD:=zh (HRO.out.next hHeld);refine hK.out _ _ hHeld (fun hHeld=>?_);clear hK K
  try simp only[Act.put]
  refine wpAnyH_done (by kernel_rfl) ?_ _;clear hHeld;go_wp2;go_ret;refine⟨HD3.out,?_⟩;rw[if_neg hbig,if_neg (by unfold cj;rw[HIG.out,<-HMM.out.1,<-HMM.out.2];have heq:wM=hM:=(by have h:=hbb;rw[beq_iff_eq]at h;omega);simp[heq]),hdn]
  exact⟨some ⟨lb,lo,none⟩,c3,rfl,by omega,fun a ha=>HF3.out a ha,by rw[<-HDZ.out];exact HRD.out⟩
end Go.Proofs.YtbfpdnnphdagjaaGreat
