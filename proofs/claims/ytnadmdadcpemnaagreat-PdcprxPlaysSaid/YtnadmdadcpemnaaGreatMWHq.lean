import Derived.Test.YtnadmdadcpemnaaGreatMWDq
import Derived.Test.YtnadmdadcpemnaaGreatMDMq
import Derived.Test.YtnadmdadcpemnaaGreatMRMq
import Derived.BigQuiet
import Derived.Test.YtnadmdadcpemnaaGreatB1q
set_option maxRecDepth 100000
set_option maxHeartbeats 12800000
namespace Go.Proofs.YtnadmdadcpemnaaGreat
set_option linter.unusedVariables false
set_option linter.unusedSimpArgs false
open Go.RowKit
attribute [local go_sem ↓] Go.wp_at_zero Go.wp_at_succ
def VOpO (C:Cfg) (ct n:Nat) (z:Nat->Nat) (w:World) (e:Ending) (w':World):Prop:=
 Below w.heap.size w w'/\∃A c,e=.returned (.tuple #[.slice A (dataN C n) c,.bool (codeOk C ct n z)])/\dataN C n<=c/\Fresh w.heap.size A/\Row w' w'.heap.size A (dataN C n) (fun j=>.int .u8 ((dataZ C ct z j:Nat):Int))
theorem fnL_take (f:Nat->Nat) {m q:Nat} (h:q<=m):(fnL f m).take (q*1)=fnL f q:=by
 unfold fnL;rw[Nat.mul_one,<-List.map_take,List.take_range,Nat.min_eq_left h]
theorem vopen_plain (g:Nat) (s:RS) (U:List (Nat->Int)) (M R:Nat->Prop) (Aq:Option Addr) (cq:Nat) (l:List SE) (uA:Option Addr) (uc:Nat) (w:World) (h:VM w g s U M R Aq cq l uA uc) (hok:s.C.Ok) (hv:s.C.Valid) (ct:Nat) (hct:ct < 4294967296)
  (A:Option Addr) (n c:Nat) (z:Nat->Nat) (hn:2<=n) (hn9:n<=16386) (hig:s.C.ig=false) (hnc:n<=c) (hz:∀j,j < n->z j < 256) (hr:Row w w.heap.size A n (fun j=>.int .u8 ((z j:Nat):Int))) :
  Calls Tryz.prog 77 #[.pointer (some ⟨g,0,none⟩),.int .u32 ct,.slice A n c] w (VOpO s.C ct n z w):=by
 have HN9:=zh hn9;have HT:=zh h;have HZ:=zh hz;have HIG:=zh hig;have HKL:Hid (B16 (nf s.C.key)):=zh (fun j hj=>nf_lt hok.key hj);obtain⟨B,hB⟩:∃B:Nat,B=s.C.b.toNat:=⟨_,rfl⟩
 obtain⟨D,hD⟩:∃D:Nat,D=s.C.d.toNat:=⟨_,rfl⟩
 have HB:=zh hB;have HD:=zh hD;have HBI:Hid (s.C.b=(B:Int)):=zh (by rw[hB];have:=hv.1;omega);have HDI:Hid (s.C.d=(D:Int)):=zh (by rw[hD];have:=hv.2.2.1;omega);have HBL:Hid (B < 32):=zh (by rw[hB];have:=hv.2.1;omega);have HDL:Hid (D < 2):=zh (by rw[hD];have:=hv.2.2.1;omega);have HCT:=zh hct;obtain⟨pb,po,rfl,hpb,hpc⟩:=hr (by omega);obtain⟨lo2,hs2,hlo2⟩:=slice2 pb po n c hn hnc;have HSL:=zh hs2;have HR2:Hid (Row w w.heap.size (some ⟨pb,lo2,none⟩) (n-2) (fun j=>.int .u8 ((z (2+j):Nat):Int))):=zh (fun hne=>⟨pb,lo2,rfl,hpb,fun j hj=>by
  rw[hlo2 (by omega),Nat.add_assoc]
  exact hpc (2+j) (by omega)⟩)
 have HN:=zh (And.intro hn hnc);clear h hz hig hB hD hv hct hr hpb hpc hs2 hlo2 hnc hn hn9;obtain⟨w0,hw0⟩:∃w0,w0=w.drew:=⟨_,rfl⟩
 have hb0:Below w.heap.size w w0:=by rw[hw0];exact(Below.refl _ _).drew
 have HKR:=zh (show ∀W',Below w.heap.size w W'->W'.rangeAt g 2 (b16 (nf s.C.key)).toList from fun W' hW j v hv=>by
  have hj:j < 16:=by have:=(List.getElem?_eq_some_iff.1 hv).1;rw[Array.length_toList,b16_size]at this;exact this
  rw[(HT.out.below hW).cC (j:=2+j) (by omega),<-hv,Array.getElem?_toList,b16_at _ hj];unfold Cfg.cell;rw[if_neg (by omega),if_neg (by omega),if_pos (by omega),show 2+j-2=j by omega,nf_cast hok.key hj])
 have HC0:=zh (show ∀W',Below w.heap.size w W'->W'.cell? ⟨g,0,none⟩=some (.int .i64 (B:Int))from fun W' hW=>((HT.out.below hW).cC (j:=0) (by decide)).trans (by rw[show s.C.cell 0=.int .i64 s.C.b from rfl,HBI.out]));have HC1:=zh (show ∀W',Below w.heap.size w W'->W'.cell? ⟨g,1,none⟩=some (.int .i64 (D:Int))from fun W' hW=>((HT.out.below hW).cC (j:=1) (by decide)).trans (by rw[show s.C.cell 1=.int .i64 s.C.d from rfl,HDI.out]));have HS16:Hid ((Tryz.prog.info? 23).map (·.size)=some (b16 (nf s.C.key)).toList.length):=zh (by rw[Array.length_toList,b16_size];kernel_rfl);have HUK:=zh Tryz.underlying23;have HCR:=zh (rcrypt_ok (nf s.C.key) ct B D HKL.out HCT.out HBL.out HDL.out (some ⟨pb,lo2,none⟩) (n-2) (c-2) (fun j=>z (2+j)) (by have:=HN9.out;omega) (fun j hj=>HZ.out _ (by have:=HN.out;omega)) w0 (HR2.out.next hb0));have c34:∀W',Below w.heap.size w W'->W'.cell? ⟨g,34,none⟩=some (.bool s.C.ig):=fun W' hW=>((HT.out.below hW).cC (j:=34) (by decide)).trans rfl;have HC34:=zh c34;have HBW0:=zh hb0;clear c34;go_enter Tryz.func77,Tryz.ntmps77;go_upto_region 1 with (fail)
 refine wp_region_held_drew (S:=fun w'=>Below w.heap.size w w') (by kernel_rfl) ((Below.refl _ w).drew) (fun hHeld=>?_);rw[<-hw0];rw[<-hw0]at hHeld;clear hw0 hb0;refine tkR (i:=0) (x:=some 11) (v:=.pointer (some ⟨g,0,none⟩)) rfl ?_;refine tkS (i:=1) (x:=some 12) (v:=.pointer (some ⟨g,0,none⟩)) rfl ?_;refine tkS (i:=2) (x:=some 13) (v:=.pointer (some ⟨g,0,none⟩)) rfl ?_;refine tkS (i:=3) (x:=some 14) (v:=.pointer (some ⟨g,2,none⟩)) rfl ?_;refine' tkY (i:=4) (x:=some 15) (v:=_) rfl (yieldsIf_load_mid (by rfl) _ _ rfl g 2 rfl (b16 (nf s.C.key)).toList _ (fun w h=>HKR.out w h) HUK.out rfl HS16.out) ?_;refine tkR (i:=5) (x:=some 16) (v:=.int .u32 ct) rfl ?_;refine tkR (i:=6) (x:=some 17) (v:=.pointer (some ⟨g,0,none⟩)) rfl ?_;refine tkS (i:=7) (x:=some 18) (v:=.pointer (some ⟨g,0,none⟩)) rfl ?_;refine tkS (i:=8) (x:=some 19) (v:=.pointer (some ⟨g,0,none⟩)) rfl ?_;refine tkS (i:=9) (x:=some 20) (v:=.pointer (some ⟨g,0,none⟩)) rfl ?_;refine tkY (i:=10) (x:=some 21) (v:=.int .i64 (B:Int)) rfl (.inl ⟨by rfl,fun W hW=>(by have:=HC0.out W hW;go_simp)⟩) ?_;refine tkR (i:=11) (x:=some 22) (v:=.pointer (some ⟨g,0,none⟩)) rfl ?_;refine tkS (i:=12) (x:=some 23) (v:=.pointer (some ⟨g,0,none⟩)) rfl ?_;refine tkS (i:=13) (x:=some 24) (v:=.pointer (some ⟨g,0,none⟩)) rfl ?_;refine tkS (i:=14) (x:=some 25) (v:=.pointer (some ⟨g,1,none⟩)) rfl ?_;refine tkY (i:=15) (x:=some 26) (v:=.int .i64 (D:Int)) rfl (.inl ⟨by rfl,fun W hW=>(by have:=HC1.out W hW;go_simp)⟩) ?_;refine tkR (i:=16) (x:=some 27) (v:=.slice (some ⟨pb,po,none⟩) n c) rfl ?_;refine tkY (i:=17) (x:=some 28) (v:=.slice (some ⟨pb,lo2,none⟩) (n-2) (c-2)) rfl (.inl ⟨by rfl,fun W hW=>(by have:=HSL.out W;unfold execOp;simp only[Act.eval,go_sem];simp[go_sem,this])⟩) ?_;refine rdH (i:=18) (x:=some 29) rfl fun K hK=>?_;go_simp;refine(HCR.out).mono ?_;rintro e w3 ⟨A3,c3,rfl,hS3,hF3,hB3⟩;dsimp only;have HS3:=zh hS3;have HF3:=zh (show ∀a,A3=some a->w.heap.size<=a.block from fun a ha=>Nat.le_trans HBW0.out.size (hF3 a ha));have H3:Below w.heap.size w w3:=hHeld.trans (hB3.mono HBW0.out.size);refine hK.out _ _ H3 (fun hHeld=>?_);clear hK K hS3 hF3 hB3
 try simp only[Act.put,qa,qb,qc]
 refine tkR (i:=19) (x:=some 8) (v:=.slice A3 (n-2) c3) rfl ?_;refine wpAnyH_done (by kernel_rfl) ?_ _;have HH3:=zh H3;have c34:=HC34.out w3 H3;clear H3 hHeld;rw[HIG.out]at c34;go_wp2;go_ret2;have hdn:dataN s.C n=n-2:=by unfold dataN Cfg.least;rw[HIG.out];rfl
 refine⟨HH3.out,A3,c3,?_,?_,HF3.out,?_⟩
 ·rw[hdn,show codeOk s.C ct n z=true by unfold codeOk;rw[HIG.out];rfl]
  rfl
 ·rw[hdn]
  exact HS3.out.le
 ·have h1:=sl_rowF (show SL w3 5 1 A3 (n-2) c3 (fnL (cryF (nf s.C.key) ct B D (fun j=>z (2+j))) (n-2))from HS3.out);rw[hdn];rw[HB.out,HD.out]at h1
  exact h1
theorem wslice_to (b o m c k:Nat) (hk:k<=m) (hmc:m<=c) (w:World):(Instr.slice 35 (.slice (some ⟨b,o,none⟩) m c) none (some (.int .i64 (k:Int))) none).run Tryz.prog w=.ok (.slice (some ⟨b,o,none⟩) k c) w:=by
 have h0:(0:Int)<=(k:Int):=by omega
 have h1:(k:Int)<=(c:Int):=by omega
 simp[go_sem,h0,h1]
theorem wslice_to2 (b o m c:Nat) (hk:2<=m) (hmc:m<=c) (w:World):(Instr.slice 35 (.slice (some ⟨b,o,none⟩) m c) none (some (.int .i64 2)) none).run Tryz.prog w=.ok (.slice (some ⟨b,o,none⟩) 2 c) w:=wslice_to b o m c 2 hk hmc w
theorem vopen_ig (g:Nat) (s:RS) (U:List (Nat->Int)) (M R:Nat->Prop) (Aq:Option Addr) (cq:Nat) (l:List SE) (uA:Option Addr) (uc:Nat) (w:World) (h:VM w g s U M R Aq cq l uA uc) (hok:s.C.Ok) (hv:s.C.Valid) (ct:Nat) (hct:ct < 4294967296)
  (A:Option Addr) (n c:Nat) (z:Nat->Nat) (hn6:6<=n) (hn9:n<=16386) (hig:s.C.ig=true) (hnc:n<=c) (hz:∀j,j < n->z j < 256) (hr:Row w w.heap.size A n (fun j=>.int .u8 ((z j:Nat):Int))) :
  Calls Tryz.prog 77 #[.pointer (some ⟨g,0,none⟩),.int .u32 ct,.slice A n c] w (VOpO s.C ct n z w):=by
 obtain⟨i0,hi0,hz0,hz1,hz2⟩:=info_parts Tryz.infoByte;have hn:2<=n:=by omega
 have HN6:=zh (And.intro hn6 hn9);have HKC:Hid (B16 (nf s.C.code)):=zh (fun j hj=>nf_lt hok.code hj);have HN9:=zh hn9;have HT:=zh h;have HZ:=zh hz;have HIG:=zh hig;have HKL:Hid (B16 (nf s.C.key)):=zh (fun j hj=>nf_lt hok.key hj);obtain⟨B,hB⟩:∃B:Nat,B=s.C.b.toNat:=⟨_,rfl⟩
 obtain⟨D,hD⟩:∃D:Nat,D=s.C.d.toNat:=⟨_,rfl⟩
 have HB:=zh hB;have HD:=zh hD;have HBI:Hid (s.C.b=(B:Int)):=zh (by rw[hB];have:=hv.1;omega);have HDI:Hid (s.C.d=(D:Int)):=zh (by rw[hD];have:=hv.2.2.1;omega);have HBL:Hid (B < 32):=zh (by rw[hB];have:=hv.2.1;omega);have HDL:Hid (D < 2):=zh (by rw[hD];have:=hv.2.2.1;omega);have HCT:=zh hct;obtain⟨pb,po,rfl,hpb,hpc⟩:=hr (by omega);obtain⟨lo2,hs2,hlo2⟩:=slice2 pb po n c hn hnc;have HSL:=zh hs2;have HR2:Hid (Row w w.heap.size (some ⟨pb,lo2,none⟩) (n-2) (fun j=>.int .u8 ((z (2+j):Nat):Int))):=zh (fun hne=>⟨pb,lo2,rfl,hpb,fun j hj=>by
  rw[hlo2 (by omega),Nat.add_assoc]
  exact hpc (2+j) (by omega)⟩)
 have HN:=zh (And.intro hn hnc);have HPC:Hid (Row w w.heap.size (some ⟨pb,po,none⟩) 2 (fun j=>.int .u8 ((z j:Nat):Int))):=zh (fun _=>⟨pb,po,rfl,hpb,fun j hj=>hpc j (by omega)⟩);clear hn6;clear h hz hig hB hD hv hct hr hpb hpc hs2 hlo2 hnc hn hn9;obtain⟨w0,hw0⟩:∃w0,w0=w.drew:=⟨_,rfl⟩
 have hb0:Below w.heap.size w w0:=by rw[hw0];exact(Below.refl _ _).drew
 have HKR:=zh (show ∀W',Below w.heap.size w W'->W'.rangeAt g 2 (b16 (nf s.C.key)).toList from fun W' hW j v hv=>by
  have hj:j < 16:=by have:=(List.getElem?_eq_some_iff.1 hv).1;rw[Array.length_toList,b16_size]at this;exact this
  rw[(HT.out.below hW).cC (j:=2+j) (by omega),<-hv,Array.getElem?_toList,b16_at _ hj];unfold Cfg.cell;rw[if_neg (by omega),if_neg (by omega),if_pos (by omega),show 2+j-2=j by omega,nf_cast hok.key hj])
 have HC0:=zh (show ∀W',Below w.heap.size w W'->W'.cell? ⟨g,0,none⟩=some (.int .i64 (B:Int))from fun W' hW=>((HT.out.below hW).cC (j:=0) (by decide)).trans (by rw[show s.C.cell 0=.int .i64 s.C.b from rfl,HBI.out]));have HC1:=zh (show ∀W',Below w.heap.size w W'->W'.cell? ⟨g,1,none⟩=some (.int .i64 (D:Int))from fun W' hW=>((HT.out.below hW).cC (j:=1) (by decide)).trans (by rw[show s.C.cell 1=.int .i64 s.C.d from rfl,HDI.out]));have HS16:Hid ((Tryz.prog.info? 23).map (·.size)=some (b16 (nf s.C.key)).toList.length):=zh (by rw[Array.length_toList,b16_size];kernel_rfl);have HUK:=zh Tryz.underlying23;have HCR:=zh (rcrypt_ok (nf s.C.key) ct B D HKL.out HCT.out HBL.out HDL.out (some ⟨pb,lo2,none⟩) (n-2) (c-2) (fun j=>z (2+j)) (by have:=HN9.out;omega) (fun j hj=>HZ.out _ (by have:=HN.out;omega)) w0 (HR2.out.next hb0));have c34:∀W',Below w.heap.size w W'->W'.cell? ⟨g,34,none⟩=some (.bool true):=fun W' hW=>((HT.out.below hW).cC (j:=34) (by decide)).trans (by rw[show s.C.cell 34=.bool s.C.ig from rfl,HIG.out]);have HC34:=zh c34;have HBW0:=zh hb0;clear c34;have HKR3:=zh (show ∀W',Below w.heap.size w W'->W'.rangeAt g 18 (b16 (nf s.C.code)).toList from fun W' hW j v hv=>by
  have hj:j < 16:=by have:=(List.getElem?_eq_some_iff.1 hv).1;rw[Array.length_toList,b16_size]at this;exact this
  rw[(HT.out.below hW).cC (j:=18+j) (by omega),<-hv,Array.getElem?_toList,b16_at _ hj];unfold Cfg.cell;rw[if_neg (by omega),if_neg (by omega),if_neg (by omega),if_pos (by omega),show 18+j-18=j by omega,nf_cast hok.code hj])
 have HS163:Hid ((Tryz.prog.info? 23).map (·.size)=some (b16 (nf s.C.code)).toList.length):=zh (by rw[Array.length_toList,b16_size];kernel_rfl);go_enter Tryz.func77,Tryz.ntmps77;go_upto_region 1 with (fail)
 refine wp_region_held_drew (S:=fun w'=>Below w.heap.size w w') (by kernel_rfl) ((Below.refl _ w).drew) (fun hHeld=>?_);rw[<-hw0];rw[<-hw0]at hHeld;clear hw0 hb0;refine tkR (i:=0) (x:=some 11) (v:=.pointer (some ⟨g,0,none⟩)) rfl ?_;refine tkS (i:=1) (x:=some 12) (v:=.pointer (some ⟨g,0,none⟩)) rfl ?_;refine tkS (i:=2) (x:=some 13) (v:=.pointer (some ⟨g,0,none⟩)) rfl ?_;refine tkS (i:=3) (x:=some 14) (v:=.pointer (some ⟨g,2,none⟩)) rfl ?_;refine' tkY (i:=4) (x:=some 15) (v:=_) rfl (yieldsIf_load_mid (by rfl) _ _ rfl g 2 rfl (b16 (nf s.C.key)).toList _ (fun w h=>HKR.out w h) HUK.out rfl HS16.out) ?_;refine tkR (i:=5) (x:=some 16) (v:=.int .u32 ct) rfl ?_;refine tkR (i:=6) (x:=some 17) (v:=.pointer (some ⟨g,0,none⟩)) rfl ?_;refine tkS (i:=7) (x:=some 18) (v:=.pointer (some ⟨g,0,none⟩)) rfl ?_;refine tkS (i:=8) (x:=some 19) (v:=.pointer (some ⟨g,0,none⟩)) rfl ?_;refine tkS (i:=9) (x:=some 20) (v:=.pointer (some ⟨g,0,none⟩)) rfl ?_;refine tkY (i:=10) (x:=some 21) (v:=.int .i64 (B:Int)) rfl (.inl ⟨by rfl,fun W hW=>(by have:=HC0.out W hW;go_simp)⟩) ?_;refine tkR (i:=11) (x:=some 22) (v:=.pointer (some ⟨g,0,none⟩)) rfl ?_;refine tkS (i:=12) (x:=some 23) (v:=.pointer (some ⟨g,0,none⟩)) rfl ?_;refine tkS (i:=13) (x:=some 24) (v:=.pointer (some ⟨g,0,none⟩)) rfl ?_;refine tkS (i:=14) (x:=some 25) (v:=.pointer (some ⟨g,1,none⟩)) rfl ?_;refine tkY (i:=15) (x:=some 26) (v:=.int .i64 (D:Int)) rfl (.inl ⟨by rfl,fun W hW=>(by have:=HC1.out W hW;go_simp)⟩) ?_;refine tkR (i:=16) (x:=some 27) (v:=.slice (some ⟨pb,po,none⟩) n c) rfl ?_;refine tkY (i:=17) (x:=some 28) (v:=.slice (some ⟨pb,lo2,none⟩) (n-2) (c-2)) rfl (.inl ⟨by rfl,fun W hW=>(by have:=HSL.out W;unfold execOp;simp only[Act.eval,go_sem];simp[go_sem,this])⟩) ?_;refine rdH (i:=18) (x:=some 29) rfl fun K hK=>?_;go_simp;refine(HCR.out).mono ?_;rintro e w3 ⟨A3,c3,rfl,hS3,hF3,hB3⟩;dsimp only;have HS3:=zh hS3;have HF3:=zh (show ∀a,A3=some a->w.heap.size<=a.block from fun a ha=>Nat.le_trans HBW0.out.size (hF3 a ha));have H3:Below w.heap.size w w3:=hHeld.trans (hB3.mono HBW0.out.size);refine hK.out _ _ H3 (fun hHeld=>?_);clear hK K hS3 hF3 hB3
 try simp only[Act.put,qa,qb,qc]
 refine tkR (i:=19) (x:=some 8) (v:=.slice A3 (n-2) c3) rfl ?_;refine wpAnyH_done (by kernel_rfl) ?_ _;have HH3:=zh H3;have c34:=HC34.out w3 H3;clear H3 hHeld;have HCF:=zh (fun j (hj:j < n-2)=>show cryF (nf s.C.key) ct B D (fun j=>z (2+j)) j < 256 from cryF_lt HKL.out ct B D (HZ.out _ (by omega)));obtain⟨dz,hdz⟩:∃dz,dz=cryF (nf s.C.key) ct B D (fun j=>z (2+j)):=⟨_,rfl⟩
 have HDZ:Hid (dz=dataZ s.C ct z):=zh (by rw[hdz,HB.out,HD.out];rfl);have hS3:SL w3 5 1 A3 (n-2) c3 (fnL dz (n-2)):=by rw[hdz];exact HS3.out
 rw[<-hdz]at HCF;obtain⟨lb,lo,hAA,hlb⟩:=hS3.some_ (by have:=HN6.out;omega);subst hAA;have HLB:=zh hlb;clear hdz HCR HS3 hlb;obtain⟨m,hm⟩:∃m,m=n-2:=⟨_,rfl⟩
 obtain⟨q,hq⟩:∃q,q=n-6:=⟨_,rfl⟩
 have hmq:m=q+4:=by have:=HN6.out;omega
 have HMQ:=zh (And.intro hm (And.intro hq hmq));rw[<-hm]at hS3 HCF ⊢;have hq0:(m:Int)-4=(q:Int):=by omega
 have hq2:q<=16380:=by have:=HN6.out;omega
 have hq1:(0:Int)<=(q:Int):=by omega
 have hq3:(q:Int)<=16380:=by omega
 have hm3:(m:Int)<=16384:=by omega
 have hqm:(q:Int)<=(m:Int):=by omega
 have hmc3:m<=c3:=hS3.le;have hqc3:(q:Int)<=(c3:Int):=by omega
 have hmc3':(m:Int)<=(c3:Int):=by omega
 have HS3:=zh hS3;have HC3:=zh hmc3;have HSQ:=zh (show SL w3 5 1 (some ⟨lb,lo,none⟩) q c3 (fnL dz q)from by
  have h1:=vSL_take hS3 q (by omega);rw[fnL_take dz (by omega)]at h1
  exact h1)
 clear hm hq hmq hS3;have wq0:IntKind.i64.wrap ((m:Int)-4)=(q:Int):=by rw[hq0];simp[IntKind.wrap_i64];omega
 go_upto_region 5 with (fail)
 refine wp_let (fun V=>Below w3.heap.size w3 V) (by first | exact Below.refl _ _ | exact below_drewN (Below.refl _ _) _) ?_;rintro w5 hw5;have HB5:=zh hw5;clear hw5;obtain⟨w0',hw0'⟩:∃w0',w0'=w5.drew:=⟨_,rfl⟩
 refine wp_region_held_drew (S:=fun w'=>Below w5.heap.size w5 w') (by kernel_rfl) ((Below.refl _ w5).drew) (fun hHeld=>?_);rw[<-hw0'];rw[<-hw0']at hHeld;clear hw0' c34;have HB35:=zh (show ∀W',Below w5.heap.size w5 W'->Below w.heap.size w W' from fun W' hW=>HH3.out.trans ((HB5.out.trans (hW.mono HB5.out.size)).mono HH3.out.size));have HKR4:=zh (show ∀W',Below w5.heap.size w5 W'->W'.rangeAt g 18 (b16 (nf s.C.code)).toList from fun W' hW=>HKR3.out W' (HB35.out W' hW));have HC04:=zh (show ∀W',Below w5.heap.size w5 W'->W'.cell? ⟨g,0,none⟩=some (.int .i64 (B:Int))from fun W' hW=>HC0.out W' (HB35.out W' hW));have HC14:=zh (show ∀W',Below w5.heap.size w5 W'->W'.cell? ⟨g,1,none⟩=some (.int .i64 (D:Int))from fun W' hW=>HC1.out W' (HB35.out W' hW));have HSLT:=zh (fun W=>wslice_to2 pb po n c HN.out.1 HN.out.2 W);have HSLQ:=zh (fun W=>wslice_to lb lo m c3 q (by have:=HMQ.out;omega) HC3.out W);refine tkR (i:=0) (x:=some 40) (v:=.pointer (some ⟨g,0,none⟩)) rfl ?_;refine tkS (i:=1) (x:=some 41) (v:=.pointer (some ⟨g,0,none⟩)) rfl ?_;refine tkS (i:=2) (x:=some 42) (v:=.pointer (some ⟨g,0,none⟩)) rfl ?_;refine tkS (i:=3) (x:=some 43) (v:=.pointer (some ⟨g,18,none⟩)) rfl ?_;refine' tkY (i:=4) (x:=some 44) (v:=_) rfl (yieldsIf_load_mid (by rfl) _ _ rfl g 18 rfl (b16 (nf s.C.code)).toList _ (fun w h=>HKR4.out w h) HUK.out rfl HS163.out) ?_;refine tkR (i:=5) (x:=some 45) (v:=.int .u32 ct) rfl ?_;refine tkR (i:=6) (x:=some 46) (v:=.pointer (some ⟨g,0,none⟩)) rfl ?_;refine tkS (i:=7) (x:=some 47) (v:=.pointer (some ⟨g,0,none⟩)) rfl ?_;refine tkS (i:=8) (x:=some 48) (v:=.pointer (some ⟨g,0,none⟩)) rfl ?_;refine tkS (i:=9) (x:=some 49) (v:=.pointer (some ⟨g,0,none⟩)) rfl ?_;refine tkY (i:=10) (x:=some 50) (v:=.int .i64 (B:Int)) rfl (.inl ⟨by rfl,fun W hW=>(by have:=HC04.out W hW;go_simp)⟩) ?_;refine tkR (i:=11) (x:=some 51) (v:=.pointer (some ⟨g,0,none⟩)) rfl ?_;refine tkS (i:=12) (x:=some 52) (v:=.pointer (some ⟨g,0,none⟩)) rfl ?_;refine tkS (i:=13) (x:=some 53) (v:=.pointer (some ⟨g,0,none⟩)) rfl ?_;refine tkS (i:=14) (x:=some 54) (v:=.pointer (some ⟨g,1,none⟩)) rfl ?_;refine tkY (i:=15) (x:=some 55) (v:=.int .i64 (D:Int)) rfl (.inl ⟨by rfl,fun W hW=>(by have:=HC14.out W hW;go_simp)⟩) ?_;refine tkR (i:=16) (x:=some 56) (v:=.slice (some ⟨pb,po,none⟩) n c) rfl ?_;refine tkY (i:=17) (x:=some 57) (v:=.slice (some ⟨pb,po,none⟩) 2 c) rfl (.inl ⟨by rfl,fun W hW=>(by have:=HSLT.out W;unfold execOp;simp only[Act.eval,go_sem];simp[go_sem,this])⟩) ?_;refine tkR (i:=19) (x:=some 59) (v:=.slice (some ⟨lb,lo,none⟩) m c3) rfl ?_;refine tkR (i:=20) (x:=some 60) (v:=.int .i64 (q:Int)) rfl ?_;refine tkY (i:=21) (x:=some 61) (v:=.slice (some ⟨lb,lo,none⟩) q c3) rfl (.inl ⟨by rfl,fun W hW=>(by have:=HSLQ.out W;unfold execOp;simp only[Act.eval,go_sem];simp[go_sem,this])⟩) ?_;refine rdH (i:=18) (x:=some 58) rfl fun K hK=>?_;refine wp_sl_append _ _ 35 35 rfl w0' 5 i0 (.int .u8 0) 1 1 Tryz.underlying35 hi0 hz0 hz1 hz2 rfl none 0 0 [] rfl (SL.nil _ _ _) (.slice (some ⟨pb,po,none⟩) 2 c) rfl 2 (fnL z 2) (src_row (by decide) (HPC.out.next (HB35.out _ hHeld))) (by omega) (by unfold maxLen;omega) (by omega) (fun A5 c5 u1 hs1 hk1 ha1=>?_);rw[List.nil_append,Nat.zero_add]at hs1;rw[Nat.zero_add];have hLA:∀a,A5=some a->w5.heap.size<=a.block:=fun a ha=>by
  rcases ha1 a ha with ⟨a',h1,_⟩ | h2
  ·cases h1
  ·have:=hHeld.size;omega
 have hE2:Below w5.heap.size w5 u1:=KeepF.below hHeld hk1 (fun k ⟨a,ha,_⟩=>by cases ha) hHeld.size;have HL5:=zh (And.intro hs1 hLA);refine hK.out _ _ hE2 (fun hHeld=>?_);clear hK K hs1 hk1 ha1 hLA hE2
 try simp only[Act.put,qa,qb,qc]
 refine rdH (i:=22) (x:=some 62) rfl fun K hK=>?_;refine wp_sl_appendA _ _ 35 35 rfl u1 5 i0 (.int .u8 0) 1 1 Tryz.underlying35 hi0 hz0 hz1 hz2 rfl A5 2 c5 (fnL z 2) rfl HL5.out.1 (.slice (some ⟨lb,lo,none⟩) q c3) rfl q (fnL dz q) ((HSQ.out.next (HB5.out.trans (hHeld.mono HB5.out.size))).srcN Tryz.underlying35 (fun u hu=>fnL_one hu)) (by unfold maxLen;omega) (by omega) (fun A6 c6 u2 hs1 hk1 ha1=>?_);rw[fnL_cat]at hs1;have hE3:Below w5.heap.size w5 u2:=KeepF.below hHeld hk1 (fun k ⟨a,ha,e⟩=>by rw[e];exact HL5.out.2 a ha) hHeld.size;have HL6:=zh hs1;refine hK.out _ _ hE3 (fun hHeld=>?_);clear hK K hs1 hk1 ha1 hE3
 try simp only[Act.put,qa,qb,qc]
 refine rdH (i:=23) (x:=some 63) rfl fun K hK=>?_;go_simp;refine(rcode_ok (nf s.C.code) ct B D HKC.out HCT.out HBL.out HDL.out A6 (2+q) c6 (catF z 2 dz) (by omega) (by omega) (catF_lt (fun j hj=>HZ.out j (by have:=HN6.out;omega)) (fun j hj=>HCF.out j (by have:=HMQ.out;omega))) u2 (sl_rowF HL6.out)).mono ?_;rintro e u3 ⟨rfl,hB6⟩;dsimp only;have hE3:Below w5.heap.size w5 u3:=hHeld.trans (hB6.mono hHeld.size);have HWM:Hid (codeF (nf s.C.code) ct B D (catF z 2 dz) (2+q)=wantM s.C ct n z):=zh (by
  have hdn:dataN s.C n=q:=by unfold dataN Cfg.least;rw[HIG.out,HMQ.out.2.1];rfl
  unfold wantM;rw[hdn,HDZ.out,HB.out,HD.out])
 rw[HWM.out];refine hK.out _ _ hE3 (fun hHeld=>?_);clear hK K hB6 hHeld
 try simp only[Act.put,qa,qb,qc]
 have hHeld:=hE3;refine tkR (i:=24) (x:=some 10) (v:=.int .u32 ((wantM s.C ct n z:Nat):Int)) rfl ?_;refine wpAnyH_done (by kernel_rfl) ?_ _;have HE3:=zh (HB35.out u3 hE3);have HS9:=zh (HS3.out.next (HB5.out.trans (hE3.mono HB5.out.size)));have hF:∀j,j < 4->u3.cell? ⟨lb,lo+(q+j),none⟩=some (.int .u8 ((dz (q+j):Nat):Int)):=fun j hj=>by
  have h1:=HS9.out.cell rfl (j:=q+j) (by have:=HMQ.out;omega);rw[fnL_at dz (by have:=HMQ.out;omega)]at h1
  exact h1
 have y0:=hF 0 (by decide);have y1:=hF 1 (by decide);have y2:=hF 2 (by decide);have y3:=hF 3 (by decide);have b0:=HCF.out (q+0) (by have:=HMQ.out;omega);have b1:=HCF.out (q+1) (by have:=HMQ.out;omega);have b2:=HCF.out (q+2) (by have:=HMQ.out;omega);have b3:=HCF.out (q+3) (by have:=HMQ.out;omega);have HHM:Hid (hasM s.C ct n z=dz (q+0)*16777216+dz (q+1)*65536+dz (q+2)*256+dz (q+3)):=zh (by
  have hdn:dataN s.C n=q:=by unfold dataN Cfg.least;rw[HIG.out,HMQ.out.2.1];rfl
  unfold hasM;rw[hdn,<-HDZ.out])
 generalize dz (q+0)=f0 at y0 b0 HHM;generalize dz (q+1)=f1 at y1 b1 HHM;generalize dz (q+2)=f2 at y2 b2 HHM;generalize dz (q+3)=f3 at y3 b3 HHM;rw[Nat.add_zero]at y0;obtain⟨qa,hqa⟩:∃qa,qa=q+1:=⟨_,rfl⟩
 obtain⟨qb,hqb⟩:∃qb,qb=q+2:=⟨_,rfl⟩
 obtain⟨qc,hqc⟩:∃qc,qc=q+3:=⟨_,rfl⟩
 rw[<-hqa]at y1;rw[<-hqb]at y2;rw[<-hqc]at y3;have wa:IntKind.i64.wrap ((q:Int)+1)=(qa:Int):=by simp[IntKind.wrap_i64];omega
 have wb:IntKind.i64.wrap ((q:Int)+2)=(qb:Int):=by simp[IntKind.wrap_i64];omega
 have wc:IntKind.i64.wrap ((q:Int)+3)=(qc:Int):=by simp[IntKind.wrap_i64];omega
 have hmm:=HMQ.out.2.2;have ia0:(0:Int)<=(qa:Int):=by omega
 have ib0:(0:Int)<=(qb:Int):=by omega
 have ic0:(0:Int)<=(qc:Int):=by omega
 have iq:(q:Int) < (m:Int):=by omega
 have ia:(qa:Int) < (m:Int):=by omega
 have ib:(qb:Int) < (m:Int):=by omega
 have ic:(qc:Int) < (m:Int):=by omega
 have v0:IntKind.u32.wrap (f0:Int)=(f0:Int):=by simp[IntKind.wrap_u32];omega
 have v1:IntKind.u32.wrap (f1:Int)=(f1:Int):=by simp[IntKind.wrap_u32];omega
 have v2:IntKind.u32.wrap (f2:Int)=(f2:Int):=by simp[IntKind.wrap_u32];omega
 have v3:IntKind.u32.wrap (f3:Int)=(f3:Int):=by simp[IntKind.wrap_u32];omega
 obtain⟨s0,hs0⟩:∃s0:Int,s0=(f0:Int)*16777216:=⟨_,rfl⟩
 obtain⟨s1,hs1⟩:∃s1:Int,s1=(f1:Int)*65536:=⟨_,rfl⟩
 obtain⟨s2,hs2⟩:∃s2:Int,s2=(f2:Int)*256:=⟨_,rfl⟩
 obtain⟨t1,ht1⟩:∃t1:Int,t1=s0+s1:=⟨_,rfl⟩
 obtain⟨t2,ht2⟩:∃t2:Int,t2=t1+s2:=⟨_,rfl⟩
 obtain⟨hM,hHM⟩:∃hM,hM=hasM s.C ct n z:=⟨_,rfl⟩
 obtain⟨wM,hWM⟩:∃wM,wM=wantM s.C ct n z:=⟨_,rfl⟩
 have hh:=HHM.out;rw[<-hHM]at hh;have x0:IntKind.u32.wrap ((f0:Int)*16777216)=s0:=by rw[hs0];simp[IntKind.wrap_u32];omega
 have x1:IntKind.u32.wrap ((f1:Int)*65536)=s1:=by rw[hs1];simp[IntKind.wrap_u32];omega
 have x2:IntKind.u32.wrap ((f2:Int)*256)=s2:=by rw[hs2];simp[IntKind.wrap_u32];omega
 have x3:IntKind.u32.wrap (s0+s1)=t1:=by rw[ht1];simp[IntKind.wrap_u32];omega
 have x4:IntKind.u32.wrap (t1+s2)=t2:=by rw[ht2];simp[IntKind.wrap_u32];omega
 have x5:IntKind.u32.wrap (t2+(f3:Int))=(hM:Int):=by simp[IntKind.wrap_u32];omega
 rw[<-hWM];have HMM:=zh (And.intro hHM hWM);obtain⟨bb,hbb⟩:∃bb:Bool,((hM:Int) == (wM:Int))=bb:=⟨_,rfl⟩
 have HBB:=zh hbb;clear hqa hqb hqc hmm hh hs0 hs1 hs2 ht1 ht2 hHM hWM hF hE3 hHeld HHM HWM b0 b1 b2 b3;go_upto_region 6 with (fail)
 go_quiet (fail);go_wp2;go_ret2;have hdn:dataN s.C n=q:=by unfold dataN Cfg.least;rw[HIG.out,HMQ.out.2.1];rfl
 have hcode:codeOk s.C ct n z=((hM:Int) == (wM:Int)):=by
  unfold codeOk;rw[HIG.out,<-HMM.out.1,<-HMM.out.2];by_cases he:wM=hM
  ·rw[he];simp
  ·have h1:¬(hM:Int)=(wM:Int):=by omega
   simp[he,h1]
 refine⟨?_,some ⟨lb,lo,none⟩,c3,?_,?_,HF3.out,?_⟩
 ·first | exact HE3.out | exact below_drewN HE3.out _
 ·rw[hdn,hcode,HBB.out]
  first | rfl | (rw[<-HBB.out];rfl)
 ·rw[hdn];have:=HMQ.out;have:=HC3.out;omega
 ·rw[hdn,<-HDZ.out];have h1:=vSL_take HS9.out q (by have:=HMQ.out;omega);rw[fnL_take dz (by have:=HMQ.out;omega)]at h1
  first | exact sl_rowF h1 | exact(sl_rowF h1).next (below_drewN (Below.refl _ _) _)
def VRcvO (w:World) (h:Nat) (s:RS) (U:List (Nat->Int)) (M R:Nat->Prop) (uA:Option Addr) (uc:Nat) (t:Int) (n:Nat) (z:Nat->Nat) (e:Ending) (w':World):Prop:=
 ∃A2 c2 lo A' c' l' M' R',e=.returned (.tuple #[.slice A2 lo.length c2,.int .i64 (s.receive t n z).2.1])/\OutM w' w.heap.size A2 c2 lo/\lo.map (·.v)=(s.receive t n z).1/\(∀x,x∈lo->Pkt w' R' x.A x.v.n x.c x.v.z)/\VM w' h (s.receive t n z).2.2 U M' R' A' c' l' uA uc/\(∀k,M' k->M k\/w.heap.size<=k)/\(∀k,R' k->R k\/w.heap.size<=k)/\KeepF (fun k=>k=h) w w'
theorem VStoO.next {w w':World} {h:Nat} {s:RS} {U:List (Nat->Int)} {M R:Nat->Prop} {A:Option Addr} {c:Nat} {l:List SE} {uA:Option Addr} {uc:Nat} (m:VM w h s U M R A c l uA uc) {x:SE} (hs:VStoO w h s U l uA uc x (.returned (.tuple #[])) w') (h0:s.deliver<=x.v.ct) (h1:x.v.ct+1<=4294967296) (hno:∀e,e∈l->e.v.ct ≠ x.v.ct) (hx1:1<=x.v.n) (hx9:x.v.n<=9000) (hxc:x.v.n<=x.c) (hxb:∀j,j < x.v.n->0<=x.v.z j/\x.v.z j < 256) (hxr:Row w w.heap.size x.A x.v.n (fun j=>.int .u8 (x.v.z j))) (B:Nat) (hB:B<=w.heap.size) (hxf:∀a,x.A=some a->B<=a.block) (hMB:∀k,M k->k < B) (hRB:∀k,R k->k < B ) :
  ∃A' c' M' R',VM (w'.setCell ⟨h,41,none⟩ (.int .u64 (max s.next (x.v.ct+1)))) h { s with L:=insV x.v s.L,next:=max s.next (x.v.ct+1) } U M' R' A' c' (insS x l) uA uc/\(∀k,M' k->M k\/B<=k)/\(∀k,R' k->R k\/B<=k)/\(∀k,R k->R' k)/\KeepF (fun k=>k=h) w (w'.setCell ⟨h,41,none⟩ (.int .u64 (max s.next (x.v.ct+1)))):=by
 obtain⟨_,A',c',hb,hsl,hA,hk⟩:=hs;obtain⟨b,o,hxA,hxlt,hxc2⟩:=hxr (by omega);have hk2:=hk.trans (keep_set w' h 41 (.int .u64 (max s.next (x.v.ct+1)))) (fun _ _ h=>h);have hk1:=keep_set w' h 41 (.int .u64 (max s.next (x.v.ct+1)));have hxB:B<=b:=hxf _ hxA;have hAB:∀a,A'=some a->a.block < w'.heap.size:=fun a ha=>by
  obtain⟨b2,o2,e2,hlt⟩:=hsl.some_ (by rw[insS_len];omega);rw[ha]at e2;cases e2
  exact hlt
 have hws:=hk.size;have hws1:=hk1.size;refine⟨A',c',fun k=>M k\/∃a,A'=some a/\k=a.block,fun k=>R k\/k=b,?_,fun k hm=>?_,fun k hr=>?_,fun k hr=>.inl hr,hk2⟩;rotate_left
 ·rcases hm with hm | ⟨a,ha,e⟩
  ·exact .inl hm
  ·exact .inr (by have:=hA a ha;omega)
 ·rcases hr with hr | hr
  ·exact .inl hr
  ·exact .inr (by omega)
 refine⟨?_,?_,m.uv,hsl.keepF hk1 (fun a ha e=>by have:=hA a ha;have:=m.min _ m.mh;omega),m.us.keepF hk2 (fun a ha e=>m.hu a ha e.symm),insS_rising m.ris (findS_none_iff.2 hno),fun e he=>?_,fun e he=>?_,?_,.inl m.mh,fun a ha=>.inr ⟨a,ha,rfl⟩,fun a ha=>.inl (m.mu a ha),fun k hm hr=>?_,fun k hm=>?_,fun k hr=>?_⟩
 ·rw[<-vArr_nx s.C.arr_size]
  exact hb.set_ 41 _
 ·rw[insV_map,m.lv]
 ·rcases (insS_mem x l e).1 he with rfl | h1
  ·exact⟨h0,by show e.v.ct < max s.next (e.v.ct+1);omega⟩
  ·have:=m.rng e h1
   exact⟨this.1,by show e.v.ct < max s.next (x.v.ct+1);omega⟩
 ·rcases (insS_mem x l e).1 he with rfl | h1
  ·have hp:Pkt w (fun k=>R k\/k=b) e.A e.v.n e.c e.v.z:=⟨hx1,hx9,hxc,hxb,hxr,fun a ha=>.inr (by rw[hxA]at ha;cases ha;rfl)⟩
   exact hp.keep hk2 (fun k hf hr=>by
    rcases hr with hr | hr
    ·exact m.dis k (by rw[hf];exact m.mh) hr
    ·have:=hMB _ m.mh;omega)
  ·exact((m.pk e h1).keep hk2 (fun k hf hr=>m.dis k (by rw[hf];exact m.mh) hr)).mono (fun k hr=>.inl hr)
 ·have h2:=m.ok.deliver;have h3:=m.ok.next;have h4:=m.ok.limit
  exact⟨m.ok.now,⟨h2.1,by show s.deliver<=max s.next (x.v.ct+1);omega⟩,by show max s.next (x.v.ct+1)<=4294967296;omega,⟨h4.1,by show s.limit<=max s.next (x.v.ct+1);omega⟩,m.ok.expiry,m.ok.dup⟩
 ·rcases hm with hm | ⟨a,ha,e⟩
  ·rcases hr with hr | hr
   ·exact m.dis k hm hr
   ·have:=hMB k hm;omega
  ·have:=hA a ha;rcases hr with hr | hr
   ·have:=m.rin k hr;omega
   ·omega
 ·rcases hm with hm | ⟨a,ha,e⟩
  ·have:=m.min k hm;omega
  ·have:=hAB a ha;omega
 ·rcases hr with hr | hr
  ·have:=m.rin k hr;omega
  ·omega
theorem take_least {s:RS} {n:Nat} {z:Nat->Nat} (h:n < s.C.least):s.take n z=(5,false,s):=by unfold RS.take;rw[if_pos h]
section
variable {s:RS} {n:Nat} {z:Nat->Nat}
theorem take_head (h1:¬n < s.C.least) (h:z 0 / 16 ≠ 8):s.take n z=(9,false,s):=by unfold RS.take;rw[if_neg h1,if_pos h]
theorem take_range (h1:¬n < s.C.least) (h2:¬z 0 / 16 ≠ 8) (h:cntOf s.deliver (snOf z)=none):s.take n z=(6,false,s):=by unfold RS.take;rw[if_neg h1,if_neg h2,h]
variable {ct:Int}
theorem take_long (h1:¬n < s.C.least) (h2:¬z 0 / 16 ≠ 8) (h3:cntOf s.deliver (snOf z)=some ct) (h:16384 < n-2):s.take n z=(4,false,s):=by unfold RS.take;rw[if_neg h1,if_neg h2,h3];simp only;rw[if_pos h]
theorem take_check (h1:¬n < s.C.least) (h2:¬z 0 / 16 ≠ 8) (h3:cntOf s.deliver (snOf z)=some ct) (h4:¬16384 < n-2) (h:codeOk s.C ct.toNat n z=false):s.take n z=(11,false,s):=by unfold RS.take;rw[if_neg h1,if_neg h2,h3];simp only;rw[if_neg h4,if_pos h]
theorem take_dup (h1:¬n < s.C.least) (h2:¬z 0 / 16 ≠ 8) (h3:cntOf s.deliver (snOf z)=some ct) (h4:¬16384 < n-2) (h5:¬codeOk s.C ct.toNat n z=false) (h:stored s.L ct=true\/ct < s.deliver):s.take n z=(0,false,{ s with dup:=s.dup+1 }):=by unfold RS.take;rw[if_neg h1,if_neg h2,h3];simp only;rw[if_neg h4,if_neg h5,if_pos h]
theorem take_none (h1:¬n < s.C.least) (h2:¬z 0 / 16 ≠ 8) (h3:cntOf s.deliver (snOf z)=some ct) (h4:¬16384 < n-2) (h5:¬codeOk s.C ct.toNat n z=false) (h6:¬(stored s.L ct=true\/ct < s.deliver)) (h:dataN s.C n=0):s.take n z=(5,false,s):=by unfold RS.take;rw[if_neg h1,if_neg h2,h3];simp only;rw[if_neg h4,if_neg h5,if_neg h6,if_pos h]
theorem take_big (h1:¬n < s.C.least) (h2:¬z 0 / 16 ≠ 8) (h3:cntOf s.deliver (snOf z)=some ct) (h4:¬16384 < n-2) (h5:¬codeOk s.C ct.toNat n z=false) (h6:¬(stored s.L ct=true\/ct < s.deliver)) (h7:¬dataN s.C n=0) (h:9000 < dataN s.C n):s.take n z=(4,false,s):=by unfold RS.take;rw[if_neg h1,if_neg h2,h3];simp only;rw[if_neg h4,if_neg h5,if_neg h6,if_neg h7,if_pos h]
theorem take_good (h1:¬n < s.C.least) (h2:¬z 0 / 16 ≠ 8) (h3:cntOf s.deliver (snOf z)=some ct) (h4:¬16384 < n-2) (h5:¬codeOk s.C ct.toNat n z=false) (h6:¬(stored s.L ct=true\/ct < s.deliver)) (h7:¬dataN s.C n=0) (h8:¬9000 < dataN s.C n):s.take n z=(0,true,{ s with L:=insV ⟨ct,dataN s.C n,fun j=>((dataZ s.C ct.toNat z j:Nat):Int)⟩ s.L,next:=max s.next (ct+1) }):=by unfold RS.take;rw[if_neg h1,if_neg h2,h3];simp only;rw[if_neg h4,if_neg h5,if_neg h6,if_neg h7,if_neg h8]
end
theorem receive_bad {s s1:RS} {t:Int} {n:Nat} {z:Nat->Nat} {e:Int} {s2:RS} (ht:¬1073741824<=t) (h1:(s.at_ t).expire.2=s1) (h:s1.take n z=(e,false,s2)):s.receive t n z=((s.at_ t).expire.1,e,s2):=by
 unfold RS.receive;rw[if_neg ht];simp only[h1,h]
 rfl
theorem receive_good {s s1:RS} {t:Int} {n:Nat} {z:Nat->Nat} {s2:RS} (ht:¬1073741824<=t) (h1:(s.at_ t).expire.2=s1) (h:s1.take n z=(0,true,s2)):s.receive t n z=((s.at_ t).expire.1++s2.deliver_.1,0,s2.deliver_.2.timer):=by
 unfold RS.receive;rw[if_neg ht];simp only[h1,h]
 rfl
theorem vreceive_ok (h:Nat) (s:RS) (U:List (Nat->Int)) (M R:Nat->Prop) (A:Option Addr) (c:Nat) (l:List SE) (uA:Option Addr) (uc:Nat) (w:World) (m:VM w h s U M R A c l uA uc) (hl:l.length<=249) (hok:s.C.Ok) (hv:s.C.Valid) (hdl:s.run=true->s.deliver<=s.limit) (hdup:s.dup < 4611686018427387903) (t:Int) (PA:Option Addr) (n pc:Nat) (z:Nat->Nat) (hnm:n<=maxLen) (hnc:n<=pc) (hz:∀j,j < n->z j < 256) (hr:Row w w.heap.size PA n (fun j=>.int .u8 ((z j:Nat):Int))) (hpa:∀a,PA=some a->n ≠ 0->a.block ≠ h) :
  Calls Tryz.prog 51 #[.pointer (some ⟨h,0,none⟩),.int .i64 t,.slice PA n pc] w (VRcvO w h s U M R uA uc t n z):=by
 obtain⟨i0,hi0,hz0,hz1,hz2⟩:=info_parts Tryz.infoSl;have HTK:=zh (vtick_ok h s U M R A c l uA uc w m (by omega) hv.2.2.2.2.2 hdl t);have HM:=zh m;have HL:=zh hl;unfold maxLen at hnm;by_cases hbt:1073741824<=t
 ·have HX:=zh (show s.tick t=([],2,s) by unfold RS.tick;rw[if_pos hbt]);have HRC:=zh (show s.receive t n z=([],2,s) by unfold RS.receive;rw[if_pos hbt]);clear m hl hok hv hdl hdup hz hr hpa hbt;go_enter Tryz.func51,Tryz.ntmps51;go_wp2_with (go_at_call 52;refine HTK.out.mono ?_;rintro e V ⟨A2,c2,lo,A4,c4,l4,he,hO,hlo,hsub,hV,hl4,hK3⟩;have he2:e=.returned (.tuple #[.slice A2 lo.length c2,.int .i64 2]):=he.trans (by rw[HX.out]);subst he2;have HV4:=zh hV;have HK3:=zh hK3;clear he hO hlo hsub hV hl4 hK3);go_ret2
  exact⟨none,0,[],A4,c4,l4,M,R,by rw[HRC.out];rfl,⟨SL.nil _ _ _,fun a ha=>by cases ha⟩,by rw[HRC.out];rfl,fun x hx=>by simp at hx,by have h1:=HV4.out;rw[HX.out]at h1;rw[HRC.out];exact h1,fun k hk=>.inl hk,fun k hk=>.inl hk,HK3.out⟩
 have HX:=zh (show s.tick t=((s.at_ t).expire.1,0,(s.at_ t).expire.2) by unfold RS.tick;rw[if_neg hbt]);obtain⟨s1,hs1⟩:∃s1,s1=(s.at_ t).expire.2:=⟨_,rfl⟩
 have hkp:=expire_keeps (s.at_ t);have HK1:=zh (show s1.C=s.C/\s1.dup=s.dup by rw[hs1];exact⟨hkp.1,hkp.2.1⟩);have HS1:=zh hs1;have HOK:=zh hok;have HVD:=zh hv;have HDU:=zh hdup;have HZ:=zh hz;have HR0:=zh hr;have HPA:=zh hpa;have HBT:=zh hbt;have HNC:=zh hnc;have HNM:=zh hnm;clear m hl hok hv hdl hdup hz hr hpa hbt hs1 hkp;go_enter Tryz.func51,Tryz.ntmps51;go_upto_region 2 with (go_at_call 52;refine HTK.out.mono ?_;rintro e V ⟨A2,c2,lo,A4,c4,l4,he,hO,hlo,hsub,hV,hl4,hK3⟩;have he2:e=.returned (.tuple #[.slice A2 lo.length c2,.int .i64 0]):=he.trans (by rw[HX.out]);rw[HX.out]at hlo hV;subst he2;have HV:=zh hV;have HKV:=zh hK3;have HO:=zh hO;have HLO:=zh hlo;have HSUB:=zh hsub;have HL4:=zh hl4;obtain⟨no,hno⟩:∃no,no=lo.length:=⟨_,rfl⟩;rw[<-hno];have HNO:=zh hno;clear he hO hlo hsub hV hl4 hK3 hno)
 have HV:Hid (VM V h s1 U M R A4 c4 l4 uA uc):=zh (by rw[HS1.out];exact HV.out);have HPK:=zh (show ∀V',KeepF (fun k=>k=h) V V'->∀x,x∈lo->Pkt V' R x.A x.v.n x.c x.v.z from fun V' hk x hx=>(HM.out.pk x (HSUB.out x hx)).keep (HKV.out.trans hk (fun _ _ h=>h)) (fun k hf hr=>HM.out.dis k (by rw[hf];exact HM.out.mh) hr));have HPKW:=zh (show ∀V',KeepF (fun k=>k=h) w V'->∀x,x∈lo->Pkt V' R x.A x.v.n x.c x.v.z from fun V' hk x hx=>(HM.out.pk x (HSUB.out x hx)).keep hk (fun k hf hr=>HM.out.dis k (by rw[hf];exact HM.out.mh) hr));have hno2:no<=250:=by
  have h1:=congrArg List.length HLO.out;have h2:=(expire_keeps (s.at_ t)).2.2;have h3:(s.at_ t).L.length=l.length:=by rw[show(s.at_ t).L=s.L from rfl,<-HM.out.lv,List.length_map]
  have h4:=HL.out;rw[List.length_map,<-HNO.out]at h1;omega
 have HNO2:=zh hno2;clear hno2;have HSLO:=zh (show ∀V',KeepF (fun k=>k=h) V V'->SL V' 35 1 A2 lo.length c2 (lo.map SE.val)from fun V' hk=>HO.out.1.keepF hk (fun a ha e=>by have:=HO.out.2 a ha;have:=HM.out.min _ HM.out.mh;omega));have HERR:=zh (show ∀(code:Int) (V':World),s1.take n z=(code,false,s1)->Below V.heap.size V V'->VRcvO w h s U M R uA uc t n z (.returned (.tuple #[.slice A2 no c2,.int .i64 code])) V' from fun code V' hx hb=>by
  have hrc:=receive_bad (by have:=HBT.out;omega) HS1.out.symm hx;have hk:KeepF (fun k=>k=h) V V':=KeepF.of_below hb
  exact⟨A2,c2,lo,A4,c4,l4,M,R,by rw[hrc,HNO.out],⟨HSLO.out V' hk,HO.out.2⟩,by rw[hrc];exact HLO.out,HPK.out V' hk,by rw[hrc];exact HV.out.below hb,fun k hk=>.inl hk,fun k hk=>.inl hk,HKV.out.trans hk (fun _ _ h=>h)⟩)
 have HDUP:=zh (show ∀(V':World),s1.take n z=(0,false,{ s1 with dup:=s1.dup+1 })->Below V.heap.size V V'->VRcvO w h s U M R uA uc t n z (.returned (.tuple #[.slice A2 no c2,.int .i64 0])) (V'.setCell ⟨h,47,none⟩ (.int .i64 (s1.dup+1)))from fun V' hx hb=>by
  have hrc:=receive_bad (by have:=HBT.out;omega) HS1.out.symm hx;have hk:KeepF (fun k=>k=h) V (V'.setCell ⟨h,47,none⟩ (.int .i64 (s1.dup+1))):=(KeepF.of_below hb).trans (keep_set V' h 47 _) (fun _ _ h=>h);have hd:=HV.out.ok.dup;have hd2:=HDU.out;rw[<-HK1.out.2]at hd2
  exact⟨A2,c2,lo,A4,c4,l4,M,R,by rw[hrc,HNO.out],⟨HSLO.out _ hk,HO.out.2⟩,by rw[hrc];exact HLO.out,HPK.out _ hk,by rw[hrc];exact(HV.out.below hb).setDup (s1.dup+1) (by omega),fun k hk=>.inl hk,fun k hk=>.inl hk,HKV.out.trans hk (fun _ _ h=>h)⟩)
 have HRV:=zh (show Row V V.heap.size PA n (fun j=>.int .u8 ((z j:Nat):Int))from (HKV.out.row HR0.out (Nat.le_refl _) (fun a e hn hf=>HPA.out a e hn hf)).more HKV.out.size);have HHAS:=zh (fun f V' (hb:Below V.heap.size V V')=>vhas_ok h s1 U M R A4 c4 l4 uA uc V' (HV.out.below hb) (by have:=HL.out;have:=HL4.out;omega) f);have HCNT:=zh (fun sn h0 h1 V' (hb:Below V.heap.size V V')=>vcount_ok h s1 U M R A4 c4 l4 uA uc V' (HV.out.below hb) sn h0 h1);have z34:V.cell? ⟨h,34,none⟩=some (.bool s.C.ig):=(HV.out.cC (j:=34) (by decide)).trans (by rw[HK1.out.1];rfl);have n0:(0:Int)<=(n:Int):=by omega
 have n9:(n:Int)<=9223372036854775807:=by have:=HNM.out;omega
 cases hig:s.C.ig
 ·rw[hig]at z34;have hlst:s1.C.least=2:=by unfold Cfg.least;rw[HK1.out.1,hig];rfl
  have HIG:=zh (show s1.C.ig=false by rw[HK1.out.1];exact hig);clear hig;by_cases h2:n < 2
  ·have HTE:=zh (take_least (s:=s1) (z:=z) (show n < s1.C.least by omega));have d2:decide ((n:Int) < 2)=true:=decide_eq_true (by omega);clear h2 hlst;go_wp2;go_ret2
   exact HERR.out 5 _ HTE.out (Below.refl _ _)
  have HLS:=zh (show ¬n < s1.C.least by omega);have d2:decide ((n:Int) < 2)=false:=decide_eq_false (by omega);have hn2:2<=n:=by omega
  have q0:(0:Int) < (n:Int):=by omega
  have q1:(1:Int) < (n:Int):=by omega
  clear h2 hlst;go_upto_region 6 with (fail)
  clear d2;obtain⟨pb,po,rfl,hpb,hpc⟩:=HRV.out (by omega);have HPB:=zh hpb;obtain⟨f0,hf0⟩:∃f0:Int,f0=((z 0:Nat):Int):=⟨_,rfl⟩
  obtain⟨f1,hf1⟩:∃f1:Int,f1=((z 1:Nat):Int):=⟨_,rfl⟩
  have y0:V.cell? ⟨pb,po,none⟩=some (.int .u8 f0):=by rw[hf0];exact hpc 0 (by omega)
  have y1:V.cell? ⟨pb,po+1,none⟩=some (.int .u8 f1):=by rw[hf1];exact hpc 1 (by omega)
  have hb0:0<=f0/\f0 < 256:=by rw[hf0];have:=HZ.out 0 (by omega);omega
  have hb1:0<=f1/\f1 < 256:=by rw[hf1];have:=HZ.out 1 (by omega);omega
  have HF:=zh (And.intro hf0 hf1);clear hpc hpb hf0 hf1;by_cases h8:z 0 / 16 ≠ 8
  ·have HTE:=zh (take_head HLS.out h8);by_cases e8:f0 < 128
   ·have e0:decide (f0 < 128)=true:=decide_eq_true e8;clear h8;go_wp2;go_ret2
    exact HERR.out 9 _ HTE.out (Below.refl _ _)
   ·have e0:decide (f0 < 128)=false:=decide_eq_false e8;have e1:decide (143 < f0)=true:=decide_eq_true (by have:=HF.out.1;omega);clear h8;go_wp2;go_ret2
    exact HERR.out 9 _ HTE.out (Below.refl _ _)
  have H8:=zh h8;have e0:decide (f0 < 128)=false:=decide_eq_false (by have:=HF.out.1;omega);have e1:decide (143 < f0)=false:=decide_eq_false (by have:=HF.out.1;omega);obtain⟨g0,hg0⟩:∃g0,g0=f0 % 16:=⟨_,rfl⟩
  have r0:Int.tmod f0 16=g0:=by rw[Int.tmod_eq_emod_of_nonneg hb0.1,hg0]
  have hgb:0<=g0/\g0 < 16:=by omega
  obtain⟨SN,hSN⟩:∃SN:Int,SN=((snOf z:Nat):Int):=⟨_,rfl⟩
  have hsn:SN=g0*256+f1:=by rw[hSN,hg0,HF.out.1,HF.out.2];unfold snOf;omega
  have u1:IntKind.u64.wrap g0=g0:=by simp[IntKind.wrap_u64];omega
  have u2:IntKind.u64.wrap (g0*256)=g0*256:=by simp[IntKind.wrap_u64];omega
  have u3:IntKind.u64.wrap f1=f1:=by simp[IntKind.wrap_u64];omega
  have u4:IntKind.u64.wrap (g0*256+f1)=SN:=by rw[hsn];simp[IntKind.wrap_u64];omega
  have HSN:=zh hSN;have HCN:=zh (HCNT.out SN (by omega) (by omega));obtain⟨cv,hcv⟩:∃cv,cv=cntV s1.deliver SN:=⟨_,rfl⟩
  rw[<-hcv]at HCN;have HCV:=zh hcv;clear h8 hg0 hgb hsn hSN hcv hb0 hb1
  cases hcn:cntOf s1.deliver SN with
  | none=>
   have HTE:=zh (take_range HLS.out H8.out (by rw[<-HSN.out];exact hcn));rw[hcn]at HCN;clear hcn;go_upto_region 8 with (fail)
   go_quiet ((go_at_call 76;exact Calls.quiet_of_same (HCN.out _ (by first | exact below_drewN (Below.refl _ _) _ | exact Below.refl _ _))));go_wp2;go_ret2
   exact HERR.out 6 _ HTE.out (by first | exact below_drewN (Below.refl _ _) _ | exact Below.refl _ _)
  | some ct=>
   have hcb:=cntOf_lt (sn:=snOf z) (by rw[<-HSN.out];exact hcn) (by unfold snOf;have:=HZ.out 1 (by omega);omega);have hcve:=cntV_some hcn;rw[<-HCV.out]at hcve;have HCC:=zh (show cntOf s1.deliver (snOf z)=some ct by rw[<-HSN.out];exact hcn);rw[hcn]at HCN;obtain⟨cn,rfl⟩:∃cn:Nat,ct=(cn:Int):=⟨ct.toNat,by omega⟩
   subst hcve;have hc0:(0:Int)<=(cn:Int):=by omega
   have hc1:(cn:Int) < 4294967296:=hcb.2;have wn:IntKind.i64.wrap ((n:Int)-2)=(n:Int)-2:=by simp[IntKind.wrap_i64];omega
   have wc:IntKind.u32.wrap (cn:Int)=(cn:Int):=by simp[IntKind.wrap_u32];omega
   clear hcn hcb;go_upto_region 8 with (fail)
   go_quiet ((go_at_call 76;exact Calls.quiet_of_same (HCN.out _ (by first | exact below_drewN (Below.refl _ _) _ | exact Below.refl _ _))));go_upto_region 11 with (fail)
   refine wp_let (fun X=>Below V.heap.size V X) (by first | exact Below.refl _ _ | exact below_drewN (Below.refl _ _) _) ?_;rintro V1 hV1;have HV1:=zh hV1;clear y0 y1 e0 e1 r0 u1 u2 u3 u4 z34 hV1;by_cases h4:16384 < n-2
   ·have HTE:=zh (take_long HLS.out H8.out HCC.out h4);have k4:(16384:Int) < (n:Int)-2:=by omega
    clear h4;go_wp2;go_ret2
    exact HERR.out 4 _ HTE.out HV1.out
   have k4:¬(16384:Int) < (n:Int)-2:=by omega
   have HOP:=zh (vopen_plain h s1 U M R A4 c4 l4 uA uc V1 (HV.out.below HV1.out) (by rw[HK1.out.1];exact HOK.out) (by rw[HK1.out.1];exact HVD.out) cn (by omega) (some ⟨pb,po,none⟩) n pc z hn2 (by omega) HIG.out HNC.out HZ.out (HRV.out.next HV1.out));have H4:=zh h4;clear h4;go_upto_region 14 with (go_at_call 77;refine HOP.out.mono ?_;rintro e V3 ⟨hB3,A3,c3,rfl,hc3,hF3,hR3⟩;have HV3:=zh (HV1.out.trans (hB3.mono HV1.out.size));have HV3B:=zh hB3;have HC3:=zh hc3;have HF3:=zh hF3;have HR3:=zh hR3;clear hB3 hc3 hF3 hR3)
   obtain⟨dn,hdn⟩:∃dn,dn=dataN s1.C n:=⟨_,rfl⟩
   rw[<-hdn];rw[<-hdn]at HC3 HR3;have HDN:=zh hdn;clear hdn
   cases hcode:codeOk s1.C cn n z
   ·have HTE:=zh (take_check HLS.out H8.out HCC.out H4.out (by rw[Int.toNat_natCast];exact hcode));clear hcode;go_wp2;go_ret2
    exact HERR.out 11 _ HTE.out HV3.out
   have H5:=zh (show ¬codeOk s1.C ((cn:Int)).toNat n z=false by rw[Int.toNat_natCast,hcode];decide);clear hcode;have y40:=(HV.out.below HV3.out).cd;have y47:=(HV.out.below HV3.out).cdup;have f47:=(HV.out.below HV3.out).fr 47;obtain⟨dl,hdl⟩:∃dl,dl=s1.deliver:=⟨_,rfl⟩
   obtain⟨du,hdu⟩:∃du,du=s1.dup:=⟨_,rfl⟩
   have HDD:=zh (And.intro hdl hdu);have wdu:IntKind.i64.wrap (du+1)=du+1:=by
    have h1:=HDU.out;have h2:=HV.out.ok.dup;rw[<-HK1.out.2,<-hdu]at h1;rw[<-hdu]at h2;simp[IntKind.wrap_i64];omega
   rw[<-hdl]at y40;rw[<-hdu]at y47;have HDUP':=HDUP;rw[<-hdu]at HDUP';clear hdl hdu;by_cases h6:(cn:Int) < dl
   ·have HTE:=zh (take_dup HLS.out H8.out HCC.out H4.out H5.out (.inr (by rw[<-HDD.out.1];exact h6)));have q6:decide ((cn:Int) < dl)=true:=decide_eq_true h6;clear h6;go_wp2;go_ret2
    exact HDUP'.out _ (by rw[HDD.out.2];exact HTE.out) (by first | exact HV3.out | exact below_drewN HV3.out _)
   have q6:decide ((cn:Int) < dl)=false:=decide_eq_false h6;have HHS:=zh (HHAS.out (cn:Int));obtain⟨sb,hsb⟩:∃sb,sb=stored s1.L (cn:Int):=⟨_,rfl⟩
   rw[<-hsb]at HHS
   cases sb
   rotate_left
   ·have HTE:=zh (take_dup HLS.out H8.out HCC.out H4.out H5.out (.inl hsb.symm));clear h6 hsb;go_wp2_with (go_at_call 78;refine(HHS.out _ HV3.out).mono ?_;rintro e w9 ⟨rfl,hw9⟩;have hw9:=hw9.symm;subst hw9);go_ret2
    exact HDUP'.out _ (by rw[HDD.out.2];exact HTE.out) (by first | exact HV3.out | exact below_drewN HV3.out _)
   have H6:=zh (show ¬(stored s1.L (cn:Int)=true\/(cn:Int) < s1.deliver) by rw[<-hsb,<-HDD.out.1];exact fun hx=>hx.elim (fun h1=>by cases h1) h6);have HSB:=zh hsb;have H6D:=zh h6;clear h6 hsb;go_upto_region 19 with (go_at_call 78;refine(HHS.out _ HV3.out).mono ?_;rintro e w9 ⟨rfl,hw9⟩;have hw9:=hw9.symm;subst hw9)
   refine wp_let (fun X=>Below V3.heap.size V3 X) (by first | exact Below.refl _ _ | exact below_drewN (Below.refl _ _) _) ?_;rintro V4 hV4;have HV4:=zh (HV3.out.trans (hV4.mono HV3.out.size));have HR4:=zh (HR3.out.next hV4);have HV43:=zh hV4.size;clear y40 y47 f47 q6 wdu hV4;by_cases h7:dn=0
   ·have HTE:=zh (take_none HLS.out H8.out HCC.out H4.out H5.out H6.out (by rw[<-HDN.out];exact h7));subst h7;go_wp2;go_ret2
    exact HERR.out 5 _ HTE.out HV4.out
   by_cases h9:9000 < dn
   ·have HTE:=zh (take_big HLS.out H8.out HCC.out H4.out H5.out H6.out (by rw[<-HDN.out];exact h7) (by rw[<-HDN.out];exact h9));obtain⟨di,hdi⟩:∃di:Int,((dn:Nat):Int)=di:=⟨_,rfl⟩
    have k7:(di == 0)=false:=by simp;omega
    have k7':¬di=0:=by omega
    have k9:(9000:Int) < di:=by omega
    clear h7 h9;go_wp2;go_ret2
    exact HERR.out 4 _ HTE.out HV4.out
   obtain⟨di,hdi⟩:∃di:Int,((dn:Nat):Int)=di:=⟨_,rfl⟩
   have k7:(di == 0)=false:=by simp;omega
   have k7':¬di=0:=by omega
   have k9:¬(9000:Int) < di:=by omega
   have HTE:=zh (take_good HLS.out H8.out HCC.out H4.out H5.out H6.out (by rw[<-HDN.out];exact h7) (by rw[<-HDN.out];exact h9));have H79:=zh (And.intro h7 h9);clear h7 h9;go_upto_region 23 with (fail)
   have hno:∀e,e∈l4->e.v.ct ≠ (cn:Int):=by
    have h1:=HSB.out;rw[<-HV.out.lv,stored_find]at h1;refine findS_none_iff.1 ?_
    cases hf:findS (cn:Int) l4 with
    | none=>rfl
    | some y=>rw[hf]at h1;cases h1
   have VM4:=HV.out.below HV4.out;obtain⟨x,hx⟩:∃x:SE,x=⟨⟨(cn:Int),dn,fun j=>((dataZ s1.C cn z j:Nat):Int)⟩,A3,c3⟩:=⟨_,rfl⟩
   have hl4:l4.length<=249:=Nat.le_trans HL4.out HL.out;have HST:=zh (vstore_ok h s1 U M R A4 c4 l4 uA uc V4 VM4 (by omega) x (by rw[hx];exact⟨hc0,hc1⟩) (by rw[hx];exact hno));have HCL:=zh (show ∀V5,VStoO V4 h s1 U l4 uA uc x (.returned (.tuple #[])) V5->_ from fun V5 h5=>VStoO.next VM4 h5 (by rw[hx];have:=H6D.out;rw[HDD.out.1]at this;show s1.deliver<=(cn:Int);omega) (by rw[hx];show(cn:Int)+1<=4294967296;omega) (by rw[hx];exact hno) (by rw[hx];show 1<=dn;have:=H79.out;omega) (by rw[hx];show dn<=9000;have:=H79.out;omega) (by rw[hx];exact HC3.out) (by rw[hx];intro j hj;have h1:dataZ s1.C cn z j < 256:=dataZ_lt (fun i hi=>nf_lt (by rw[HK1.out.1];exact HOK.out.key) hi) cn HZ.out hn2 (by rw[<-HDN.out];exact hj);exact⟨Int.natCast_nonneg _,by show((dataZ s1.C cn z j:Nat):Int) < 256;omega⟩) (by rw[hx];exact HR4.out) V1.heap.size (by have:=HV3B.out.size;have:=HV43.out;omega) (by rw[hx];exact HF3.out) (fun k hk=>by have:=HM.out.min k hk;have:=HKV.out.size;have:=HV1.out.size;omega) (fun k hk=>by have:=HM.out.rin k hk;have:=HKV.out.size;have:=HV1.out.size;omega));have HXE:=zh (show x.v=⟨(cn:Int),dn,fun j=>((dataZ s1.C cn z j:Nat):Int)⟩/\x.v.ct=(cn:Int) by rw[hx];exact⟨rfl,rfl⟩);have HLN:=zh (show(insS x l4).length<=250 by rw[insS_len];omega);have HST2:Hid (Calls Tryz.prog 79 #[.pointer (some ⟨h,0,none⟩),.int .u64 (cn:Int),.slice A3 dn c3] V4 (VStoO V4 h s1 U l4 uA uc x)):=zh (by have h1:=HST.out;rw[show x.v.ct=(cn:Int) by rw[hx],show x.A=A3 by rw[hx],show x.v.n=dn by rw[hx],show x.c=c3 by rw[hx]]at h1;exact h1);have w41:IntKind.u64.wrap ((cn:Int)+1)=(cn:Int)+1:=by simp[IntKind.wrap_u64];omega
   clear hno VM4 hx hl4 HST k7 k7' k9 hdi;go_upto_region 24 with (go_at_call 79;refine HST2.out.mono ?_;rintro e V5 hs5;have hs5e:=hs5.1;subst hs5e;have HS5:=zh hs5;clear hs5)
   obtain⟨_,A5,c5,hb5,_,_,hk5⟩:=HS5.out;obtain⟨A6,c6,M6,R6,hV6,hM6,hR6,hRR6,hK6⟩:=HCL.out V5 HS5.out;obtain⟨nx,hnx⟩:∃nx,nx=s1.next:=⟨_,rfl⟩
   have y41:V5.cell? ⟨h,41,none⟩=some (.int .u64 nx):=by rw[hnx];exact(hb5.cell 41).trans (vArr_high s1.C.arr_size 2)
   have f41:=hb5.frozen 41;obtain⟨s2,hs2⟩:∃s2:RS,s2={ s1 with L:=insV x.v s1.L,next:=max s1.next (x.v.ct+1) }:=⟨_,rfl⟩
   rw[<-hs2]at hV6;rw[HXE.out.2,<-hnx]at hV6 hK6;have HS2:=zh (show s1.take n z=(0,true,s2) by rw[HTE.out,hs2,HXE.out.2,HXE.out.1,HDN.out,Int.toNat_natCast]);have HV6:=zh hV6;have HM6:=zh (And.intro hM6 (And.intro hR6 hRR6));have HK6:=zh hK6;clear hb5 hk5 hV6 hM6 hR6 hRR6 hK6 hnx hs2;go_upto_region 25 with (fail)
   refine wp_let (fun Y=>VM Y h s2 U M6 R6 A6 c6 (insS x l4) uA uc/\KeepF (fun k=>k=h) V4 Y) ⟨HV6.out,HK6.out⟩ ?_;rintro Y ⟨x1,x2⟩;have HY1:=zh x1;have HYK:=zh (((HKV.out.trans (KeepF.of_below HV4.out) (fun _ _ h=>h)).trans x2 (fun _ _ h=>h)));have HYV:=zh ((KeepF.of_below (F:=fun k=>k=h) HV4.out).trans x2 (fun _ _ h=>h));have HRN:=zh (vrun_ok h s2 U M6 R6 A6 c6 (insS x l4) uA uc Y x1 HLN.out);clear x1 x2 y41 f41 w41;go_upto_region 26 with (first
    | (go_at_call 80;refine HRN.out.mono ?_;rintro e V6 ⟨A7,c7,lo7,A8,c8,l8,rfl,hO7,hlo7,hsub7,hV7,hl7,hK7⟩;have HO7:=zh hO7;have HLO7:=zh hlo7;have HSUB7:=zh hsub7;have HV7:=zh hV7;have HK7:=zh hK7;obtain⟨n7,hn7⟩:∃n7,n7=lo7.length:=⟨_,rfl⟩;have HLL7:=zh (show n7<=250 by have h1:=deliver_len' _ lo7 hlo7;have h2:=HLN.out;rw[<-HY1.out.lv,List.length_map]at h1;omega);rw[<-hn7];have HN7:=zh hn7;clear hO7 hlo7 hsub7 hV7 hl7 hK7 hn7)
    | (refine wpList_sl_appendA rfl _ _ 34 34 rfl V6 35 i0 (.slice none 0 0) 1 24 Tryz.underlying34 hi0 hz0 hz1 hz2 rfl A2 no c2 (lo.map SE.val) rfl (by rw[HNO.out];exact HSLO.out V6 (HYV.out.trans HK7.out (fun _ _ h=>h))) (.slice A7 n7 c7) rfl n7 (lo7.map SE.val) (by rw[HN7.out];exact SL.srcN Tryz.underlying34 HO7.out.1 (fun u hu=>by obtain⟨x,_,rfl⟩:=List.mem_map.1 hu;rfl)) (by have:=HLL7.out;have:=HNO2.out;unfold maxLen;omega) (by have:=HLL7.out;have:=HNO2.out;omega) ?_;intro A9 c9 V9 hs9 hk9 ha9;have HS9:=zh hs9;have HK9:=zh hk9;have HA9:=zh ha9;clear hs9 hk9 ha9))
   have HAB:=zh (show ∀k,(∃a,A2=some a/\k=a.block)->w.heap.size<=k/\k < V1.heap.size from fun k ⟨a,ha,e⟩=>by
    obtain⟨cur,hcur⟩:=HO.out.1.obj ha;have h1:=(Array.getElem?_eq_some_iff.1 hcur).1;have h2:=HO.out.2 a ha;have h3:=HV1.out.size
    exact⟨by omega,by omega⟩)
   have hA9:∀a,A9=some a->w.heap.size<=a.block:=fun a ha=>by
    rcases HA9.out a ha with ⟨a',e,h1⟩ | h1
    ·rw[h1];exact HO.out.2 a' e
    ·have:=HK7.out.size;have:=HYK.out.size;omega
   have HA9':=zh hA9;have HF9:=zh (show ∀k,(∃a,A2=some a/\k=a.block)->¬M6 k/\¬R6 k from fun k hk=>by
    have h1:=HAB.out k hk;refine⟨fun hm=>?_,fun hr=>?_⟩
    ·rcases HM6.out.1 k hm with h2 | h2
     ·have:=HM.out.min k h2;omega
     ·omega
    ·rcases HM6.out.2.1 k hr with h2 | h2
     ·have:=HM.out.rin k h2;omega
     ·omega)
   have HTM:=zh (vtimer_ok h _ U M6 R6 A8 c8 l8 uA uc V9 (HV7.out.keepF HK9.out HF9.out) (by show 0<=s2.C.ro/\s2.C.ro<=1073741824;rw[show s2.C=s1.C from (congrArg (fun q=>q.2.2.C) HS2.out).symm.trans (take_C s1 n z),HK1.out.1];exact HVD.out.2.2.2.2.2));clear hA9;go_upto_region 27 with (go_at_call 81;refine HTM.out.mono ?_;rintro e V10 ⟨rfl,hV10,hK10⟩;have HV10:=zh hV10;have HK10:=zh hK10;clear hV10 hK10)
   go_wp2;go_ret2;have hrc:=receive_good (by have:=HBT.out;omega) HS1.out.symm HS2.out;have hkw:KeepF (fun k=>k=h) w V10:=((HYK.out.trans HK7.out (fun _ _ h=>h)).trans HK9.out (fun k hk hf=>by have:=(HAB.out k hf).1;omega)).trans HK10.out (fun _ _ h=>h);have hn:(lo++lo7).length=no+n7:=by rw[List.length_append,<-HNO.out,<-HN7.out]
   refine⟨A9,c9,lo++lo7,A8,c8,l8,M6,R6,by rw[hrc,hn];rfl,⟨?_,HA9'.out⟩,by rw[hrc,List.map_append,HLO.out,HLO7.out],fun y hy=>?_,by rw[hrc];exact HV10.out,fun k hk=>?_,fun k hk=>?_,hkw⟩
   ·rw[hn,List.map_append]
    exact HS9.out.keepF HK10.out (fun a ha e=>by have:=HA9'.out a ha;have:=HM.out.min _ HM.out.mh;omega)
   ·rcases List.mem_append.1 hy with h1 | h1
    ·exact(HPKW.out V10 hkw y h1).mono HM6.out.2.2
    ·exact(((HY1.out.pk y (HSUB7.out y h1)).keep HK7.out (fun k hf hr=>HY1.out.dis k (by rw[hf];exact HY1.out.mh) hr)).keep HK9.out (fun k hf=>(HF9.out k hf).2)).keep HK10.out (fun k hf hr=>HY1.out.dis k (by rw[hf];exact HY1.out.mh) hr)
   ·rcases HM6.out.1 k hk with h2 | h2
    ·exact .inl h2
    ·exact .inr (by have:=HKV.out.size;have:=HV1.out.size;omega)
   ·rcases HM6.out.2.1 k hk with h2 | h2
    ·exact .inl h2
    ·exact .inr (by have:=HKV.out.size;have:=HV1.out.size;omega)
 ·rw[hig]at z34;have hlst:s1.C.least=6:=by unfold Cfg.least;rw[HK1.out.1,hig];rfl
  have HIG:=zh (show s1.C.ig=true by rw[HK1.out.1];exact hig);clear hig;by_cases h2:n < 2
  ·have HTE:=zh (take_least (s:=s1) (z:=z) (show n < s1.C.least by omega));have d2:decide ((n:Int) < 2)=true:=decide_eq_true (by omega);clear h2 hlst;go_wp2;go_ret2
   exact HERR.out 5 _ HTE.out (Below.refl _ _)
  have d2:decide ((n:Int) < 2)=false:=decide_eq_false (by omega);by_cases h6:n < 6
  ·have HTE:=zh (take_least (s:=s1) (z:=z) (show n < s1.C.least by omega));have d6:decide ((n:Int) < 6)=true:=decide_eq_true (by omega);clear h2 h6 hlst;go_wp2;go_ret2
   exact HERR.out 5 _ HTE.out (Below.refl _ _)
  have d6:decide ((n:Int) < 6)=false:=decide_eq_false (by omega);have HLS:=zh (show ¬n < s1.C.least by omega);have hn6:6<=n:=by omega
  have hn2:2<=n:=by omega
  have q0:(0:Int) < (n:Int):=by omega
  have q1:(1:Int) < (n:Int):=by omega
  clear h2 h6 hlst;go_upto_region 6 with (fail)
  clear d2 d6;obtain⟨pb,po,rfl,hpb,hpc⟩:=HRV.out (by omega);have HPB:=zh hpb;obtain⟨f0,hf0⟩:∃f0:Int,f0=((z 0:Nat):Int):=⟨_,rfl⟩
  obtain⟨f1,hf1⟩:∃f1:Int,f1=((z 1:Nat):Int):=⟨_,rfl⟩
  have y0:V.cell? ⟨pb,po,none⟩=some (.int .u8 f0):=by rw[hf0];exact hpc 0 (by omega)
  have y1:V.cell? ⟨pb,po+1,none⟩=some (.int .u8 f1):=by rw[hf1];exact hpc 1 (by omega)
  have hb0:0<=f0/\f0 < 256:=by rw[hf0];have:=HZ.out 0 (by omega);omega
  have hb1:0<=f1/\f1 < 256:=by rw[hf1];have:=HZ.out 1 (by omega);omega
  have HF:=zh (And.intro hf0 hf1);clear hpc hpb hf0 hf1;by_cases h8:z 0 / 16 ≠ 8
  ·have HTE:=zh (take_head HLS.out h8);by_cases e8:f0 < 128
   ·have e0:decide (f0 < 128)=true:=decide_eq_true e8;clear h8;go_wp2;go_ret2
    exact HERR.out 9 _ HTE.out (Below.refl _ _)
   ·have e0:decide (f0 < 128)=false:=decide_eq_false e8;have e1:decide (143 < f0)=true:=decide_eq_true (by have:=HF.out.1;omega);clear h8;go_wp2;go_ret2
    exact HERR.out 9 _ HTE.out (Below.refl _ _)
  have H8:=zh h8;have e0:decide (f0 < 128)=false:=decide_eq_false (by have:=HF.out.1;omega);have e1:decide (143 < f0)=false:=decide_eq_false (by have:=HF.out.1;omega);obtain⟨g0,hg0⟩:∃g0,g0=f0 % 16:=⟨_,rfl⟩
  have r0:Int.tmod f0 16=g0:=by rw[Int.tmod_eq_emod_of_nonneg hb0.1,hg0]
  have hgb:0<=g0/\g0 < 16:=by omega
  obtain⟨SN,hSN⟩:∃SN:Int,SN=((snOf z:Nat):Int):=⟨_,rfl⟩
  have hsn:SN=g0*256+f1:=by rw[hSN,hg0,HF.out.1,HF.out.2];unfold snOf;omega
  have u1:IntKind.u64.wrap g0=g0:=by simp[IntKind.wrap_u64];omega
  have u2:IntKind.u64.wrap (g0*256)=g0*256:=by simp[IntKind.wrap_u64];omega
  have u3:IntKind.u64.wrap f1=f1:=by simp[IntKind.wrap_u64];omega
  have u4:IntKind.u64.wrap (g0*256+f1)=SN:=by rw[hsn];simp[IntKind.wrap_u64];omega
  have HSN:=zh hSN;have HCN:=zh (HCNT.out SN (by omega) (by omega));obtain⟨cv,hcv⟩:∃cv,cv=cntV s1.deliver SN:=⟨_,rfl⟩
  rw[<-hcv]at HCN;have HCV:=zh hcv;clear h8 hg0 hgb hsn hSN hcv hb0 hb1
  cases hcn:cntOf s1.deliver SN with
  | none=>
   have HTE:=zh (take_range HLS.out H8.out (by rw[<-HSN.out];exact hcn));rw[hcn]at HCN;clear hcn;go_upto_region 8 with (fail)
   go_quiet ((go_at_call 76;exact Calls.quiet_of_same (HCN.out _ (by first | exact below_drewN (Below.refl _ _) _ | exact Below.refl _ _))));go_wp2;go_ret2
   exact HERR.out 6 _ HTE.out (by first | exact below_drewN (Below.refl _ _) _ | exact Below.refl _ _)
  | some ct=>
   have hcb:=cntOf_lt (sn:=snOf z) (by rw[<-HSN.out];exact hcn) (by unfold snOf;have:=HZ.out 1 (by omega);omega);have hcve:=cntV_some hcn;rw[<-HCV.out]at hcve;have HCC:=zh (show cntOf s1.deliver (snOf z)=some ct by rw[<-HSN.out];exact hcn);rw[hcn]at HCN;obtain⟨cn,rfl⟩:∃cn:Nat,ct=(cn:Int):=⟨ct.toNat,by omega⟩
   subst hcve;have hc0:(0:Int)<=(cn:Int):=by omega
   have hc1:(cn:Int) < 4294967296:=hcb.2;have wn:IntKind.i64.wrap ((n:Int)-2)=(n:Int)-2:=by simp[IntKind.wrap_i64];omega
   have wc:IntKind.u32.wrap (cn:Int)=(cn:Int):=by simp[IntKind.wrap_u32];omega
   clear hcn hcb;go_upto_region 8 with (fail)
   go_quiet ((go_at_call 76;exact Calls.quiet_of_same (HCN.out _ (by first | exact below_drewN (Below.refl _ _) _ | exact Below.refl _ _))));go_upto_region 11 with (fail)
   refine wp_let (fun X=>Below V.heap.size V X) (by first | exact Below.refl _ _ | exact below_drewN (Below.refl _ _) _) ?_;rintro V1 hV1;have HV1:=zh hV1;clear y0 y1 e0 e1 r0 u1 u2 u3 u4 z34 hV1;by_cases h4:16384 < n-2
   ·have HTE:=zh (take_long HLS.out H8.out HCC.out h4);have k4:(16384:Int) < (n:Int)-2:=by omega
    clear h4;go_wp2;go_ret2
    exact HERR.out 4 _ HTE.out HV1.out
   have k4:¬(16384:Int) < (n:Int)-2:=by omega
   have HOP:=zh (vopen_ig h s1 U M R A4 c4 l4 uA uc V1 (HV.out.below HV1.out) (by rw[HK1.out.1];exact HOK.out) (by rw[HK1.out.1];exact HVD.out) cn (by omega) (some ⟨pb,po,none⟩) n pc z hn6 (by omega) HIG.out HNC.out HZ.out (HRV.out.next HV1.out));have H4:=zh h4;clear h4;go_upto_region 14 with (go_at_call 77;refine HOP.out.mono ?_;rintro e V3 ⟨hB3,A3,c3,rfl,hc3,hF3,hR3⟩;have HV3:=zh (HV1.out.trans (hB3.mono HV1.out.size));have HV3B:=zh hB3;have HC3:=zh hc3;have HF3:=zh hF3;have HR3:=zh hR3;clear hB3 hc3 hF3 hR3)
   obtain⟨dn,hdn⟩:∃dn,dn=dataN s1.C n:=⟨_,rfl⟩
   rw[<-hdn];rw[<-hdn]at HC3 HR3;have HDN:=zh hdn;clear hdn
   cases hcode:codeOk s1.C cn n z
   ·have HTE:=zh (take_check HLS.out H8.out HCC.out H4.out (by rw[Int.toNat_natCast];exact hcode));clear hcode;go_wp2;go_ret2
    exact HERR.out 11 _ HTE.out HV3.out
   have H5:=zh (show ¬codeOk s1.C ((cn:Int)).toNat n z=false by rw[Int.toNat_natCast,hcode];decide);clear hcode;have y40:=(HV.out.below HV3.out).cd;have y47:=(HV.out.below HV3.out).cdup;have f47:=(HV.out.below HV3.out).fr 47;obtain⟨dl,hdl⟩:∃dl,dl=s1.deliver:=⟨_,rfl⟩
   obtain⟨du,hdu⟩:∃du,du=s1.dup:=⟨_,rfl⟩
   have HDD:=zh (And.intro hdl hdu);have wdu:IntKind.i64.wrap (du+1)=du+1:=by
    have h1:=HDU.out;have h2:=HV.out.ok.dup;rw[<-HK1.out.2,<-hdu]at h1;rw[<-hdu]at h2;simp[IntKind.wrap_i64];omega
   rw[<-hdl]at y40;rw[<-hdu]at y47;have HDUP':=HDUP;rw[<-hdu]at HDUP';clear hdl hdu;by_cases h6:(cn:Int) < dl
   ·have HTE:=zh (take_dup HLS.out H8.out HCC.out H4.out H5.out (.inr (by rw[<-HDD.out.1];exact h6)));have q6:decide ((cn:Int) < dl)=true:=decide_eq_true h6;clear h6;go_wp2;go_ret2
    exact HDUP'.out _ (by rw[HDD.out.2];exact HTE.out) (by first | exact HV3.out | exact below_drewN HV3.out _)
   have q6:decide ((cn:Int) < dl)=false:=decide_eq_false h6;have HHS:=zh (HHAS.out (cn:Int));obtain⟨sb,hsb⟩:∃sb,sb=stored s1.L (cn:Int):=⟨_,rfl⟩
   rw[<-hsb]at HHS
   cases sb
   rotate_left
   ·have HTE:=zh (take_dup HLS.out H8.out HCC.out H4.out H5.out (.inl hsb.symm));clear h6 hsb;go_wp2_with (go_at_call 78;refine(HHS.out _ HV3.out).mono ?_;rintro e w9 ⟨rfl,hw9⟩;have hw9:=hw9.symm;subst hw9);go_ret2
    exact HDUP'.out _ (by rw[HDD.out.2];exact HTE.out) (by first | exact HV3.out | exact below_drewN HV3.out _)
   have H6:=zh (show ¬(stored s1.L (cn:Int)=true\/(cn:Int) < s1.deliver) by rw[<-hsb,<-HDD.out.1];exact fun hx=>hx.elim (fun h1=>by cases h1) h6);have HSB:=zh hsb;have H6D:=zh h6;clear h6 hsb;go_upto_region 19 with (go_at_call 78;refine(HHS.out _ HV3.out).mono ?_;rintro e w9 ⟨rfl,hw9⟩;have hw9:=hw9.symm;subst hw9)
   refine wp_let (fun X=>Below V3.heap.size V3 X) (by first | exact Below.refl _ _ | exact below_drewN (Below.refl _ _) _) ?_;rintro V4 hV4;have HV4:=zh (HV3.out.trans (hV4.mono HV3.out.size));have HR4:=zh (HR3.out.next hV4);have HV43:=zh hV4.size;clear y40 y47 f47 q6 wdu hV4;by_cases h7:dn=0
   ·have HTE:=zh (take_none HLS.out H8.out HCC.out H4.out H5.out H6.out (by rw[<-HDN.out];exact h7));subst h7;go_wp2;go_ret2
    exact HERR.out 5 _ HTE.out HV4.out
   by_cases h9:9000 < dn
   ·have HTE:=zh (take_big HLS.out H8.out HCC.out H4.out H5.out H6.out (by rw[<-HDN.out];exact h7) (by rw[<-HDN.out];exact h9));obtain⟨di,hdi⟩:∃di:Int,((dn:Nat):Int)=di:=⟨_,rfl⟩
    have k7:(di == 0)=false:=by simp;omega
    have k7':¬di=0:=by omega
    have k9:(9000:Int) < di:=by omega
    clear h7 h9;go_wp2;go_ret2
    exact HERR.out 4 _ HTE.out HV4.out
   obtain⟨di,hdi⟩:∃di:Int,((dn:Nat):Int)=di:=⟨_,rfl⟩
   have k7:(di == 0)=false:=by simp;omega
   have k7':¬di=0:=by omega
   have k9:¬(9000:Int) < di:=by omega
   have HTE:=zh (take_good HLS.out H8.out HCC.out H4.out H5.out H6.out (by rw[<-HDN.out];exact h7) (by rw[<-HDN.out];exact h9));have H79:=zh (And.intro h7 h9);clear h7 h9;go_upto_region 23 with (fail)
   have hno:∀e,e∈l4->e.v.ct ≠ (cn:Int):=by
    have h1:=HSB.out;rw[<-HV.out.lv,stored_find]at h1;refine findS_none_iff.1 ?_
    cases hf:findS (cn:Int) l4 with
    | none=>rfl
    | some y=>rw[hf]at h1;cases h1
   have VM4:=HV.out.below HV4.out;obtain⟨x,hx⟩:∃x:SE,x=⟨⟨(cn:Int),dn,fun j=>((dataZ s1.C cn z j:Nat):Int)⟩,A3,c3⟩:=⟨_,rfl⟩
   have hl4:l4.length<=249:=Nat.le_trans HL4.out HL.out;have HST:=zh (vstore_ok h s1 U M R A4 c4 l4 uA uc V4 VM4 (by omega) x (by rw[hx];exact⟨hc0,hc1⟩) (by rw[hx];exact hno));have HCL:=zh (show ∀V5,VStoO V4 h s1 U l4 uA uc x (.returned (.tuple #[])) V5->_ from fun V5 h5=>VStoO.next VM4 h5 (by rw[hx];have:=H6D.out;rw[HDD.out.1]at this;show s1.deliver<=(cn:Int);omega) (by rw[hx];show(cn:Int)+1<=4294967296;omega) (by rw[hx];exact hno) (by rw[hx];show 1<=dn;have:=H79.out;omega) (by rw[hx];show dn<=9000;have:=H79.out;omega) (by rw[hx];exact HC3.out) (by rw[hx];intro j hj;have h1:dataZ s1.C cn z j < 256:=dataZ_lt (fun i hi=>nf_lt (by rw[HK1.out.1];exact HOK.out.key) hi) cn HZ.out hn2 (by rw[<-HDN.out];exact hj);exact⟨Int.natCast_nonneg _,by show((dataZ s1.C cn z j:Nat):Int) < 256;omega⟩) (by rw[hx];exact HR4.out) V1.heap.size (by have:=HV3B.out.size;have:=HV43.out;omega) (by rw[hx];exact HF3.out) (fun k hk=>by have:=HM.out.min k hk;have:=HKV.out.size;have:=HV1.out.size;omega) (fun k hk=>by have:=HM.out.rin k hk;have:=HKV.out.size;have:=HV1.out.size;omega));have HXE:=zh (show x.v=⟨(cn:Int),dn,fun j=>((dataZ s1.C cn z j:Nat):Int)⟩/\x.v.ct=(cn:Int) by rw[hx];exact⟨rfl,rfl⟩);have HLN:=zh (show(insS x l4).length<=250 by rw[insS_len];omega);have HST2:Hid (Calls Tryz.prog 79 #[.pointer (some ⟨h,0,none⟩),.int .u64 (cn:Int),.slice A3 dn c3] V4 (VStoO V4 h s1 U l4 uA uc x)):=zh (by have h1:=HST.out;rw[show x.v.ct=(cn:Int) by rw[hx],show x.A=A3 by rw[hx],show x.v.n=dn by rw[hx],show x.c=c3 by rw[hx]]at h1;exact h1);have w41:IntKind.u64.wrap ((cn:Int)+1)=(cn:Int)+1:=by simp[IntKind.wrap_u64];omega
   clear hno VM4 hx hl4 HST k7 k7' k9 hdi;go_upto_region 24 with (go_at_call 79;refine HST2.out.mono ?_;rintro e V5 hs5;have hs5e:=hs5.1;subst hs5e;have HS5:=zh hs5;clear hs5)
   obtain⟨_,A5,c5,hb5,_,_,hk5⟩:=HS5.out;obtain⟨A6,c6,M6,R6,hV6,hM6,hR6,hRR6,hK6⟩:=HCL.out V5 HS5.out;obtain⟨nx,hnx⟩:∃nx,nx=s1.next:=⟨_,rfl⟩
   have y41:V5.cell? ⟨h,41,none⟩=some (.int .u64 nx):=by rw[hnx];exact(hb5.cell 41).trans (vArr_high s1.C.arr_size 2)
   have f41:=hb5.frozen 41;obtain⟨s2,hs2⟩:∃s2:RS,s2={ s1 with L:=insV x.v s1.L,next:=max s1.next (x.v.ct+1) }:=⟨_,rfl⟩
   rw[<-hs2]at hV6;rw[HXE.out.2,<-hnx]at hV6 hK6;have HS2:=zh (show s1.take n z=(0,true,s2) by rw[HTE.out,hs2,HXE.out.2,HXE.out.1,HDN.out,Int.toNat_natCast]);have HV6:=zh hV6;have HM6:=zh (And.intro hM6 (And.intro hR6 hRR6));have HK6:=zh hK6;clear hb5 hk5 hV6 hM6 hR6 hRR6 hK6 hnx hs2;go_upto_region 25 with (fail)
   refine wp_let (fun Y=>VM Y h s2 U M6 R6 A6 c6 (insS x l4) uA uc/\KeepF (fun k=>k=h) V4 Y) ⟨HV6.out,HK6.out⟩ ?_;rintro Y ⟨x1,x2⟩;have HY1:=zh x1;have HYK:=zh (((HKV.out.trans (KeepF.of_below HV4.out) (fun _ _ h=>h)).trans x2 (fun _ _ h=>h)));have HYV:=zh ((KeepF.of_below (F:=fun k=>k=h) HV4.out).trans x2 (fun _ _ h=>h));have HRN:=zh (vrun_ok h s2 U M6 R6 A6 c6 (insS x l4) uA uc Y x1 HLN.out);clear x1 x2 y41 f41 w41;go_upto_region 26 with (first
    | (go_at_call 80;refine HRN.out.mono ?_;rintro e V6 ⟨A7,c7,lo7,A8,c8,l8,rfl,hO7,hlo7,hsub7,hV7,hl7,hK7⟩;have HO7:=zh hO7;have HLO7:=zh hlo7;have HSUB7:=zh hsub7;have HV7:=zh hV7;have HK7:=zh hK7;obtain⟨n7,hn7⟩:∃n7,n7=lo7.length:=⟨_,rfl⟩;have HLL7:=zh (show n7<=250 by have h1:=deliver_len' _ lo7 hlo7;have h2:=HLN.out;rw[<-HY1.out.lv,List.length_map]at h1;omega);rw[<-hn7];have HN7:=zh hn7;clear hO7 hlo7 hsub7 hV7 hl7 hK7 hn7)
    | (refine wpList_sl_appendA rfl _ _ 34 34 rfl V6 35 i0 (.slice none 0 0) 1 24 Tryz.underlying34 hi0 hz0 hz1 hz2 rfl A2 no c2 (lo.map SE.val) rfl (by rw[HNO.out];exact HSLO.out V6 (HYV.out.trans HK7.out (fun _ _ h=>h))) (.slice A7 n7 c7) rfl n7 (lo7.map SE.val) (by rw[HN7.out];exact SL.srcN Tryz.underlying34 HO7.out.1 (fun u hu=>by obtain⟨x,_,rfl⟩:=List.mem_map.1 hu;rfl)) (by have:=HLL7.out;have:=HNO2.out;unfold maxLen;omega) (by have:=HLL7.out;have:=HNO2.out;omega) ?_;intro A9 c9 V9 hs9 hk9 ha9;have HS9:=zh hs9;have HK9:=zh hk9;have HA9:=zh ha9;clear hs9 hk9 ha9))
   have HAB:=zh (show ∀k,(∃a,A2=some a/\k=a.block)->w.heap.size<=k/\k < V1.heap.size from fun k ⟨a,ha,e⟩=>by
    obtain⟨cur,hcur⟩:=HO.out.1.obj ha;have h1:=(Array.getElem?_eq_some_iff.1 hcur).1;have h2:=HO.out.2 a ha;have h3:=HV1.out.size
    exact⟨by omega,by omega⟩)
   have hA9:∀a,A9=some a->w.heap.size<=a.block:=fun a ha=>by
    rcases HA9.out a ha with ⟨a',e,h1⟩ | h1
    ·rw[h1];exact HO.out.2 a' e
    ·have:=HK7.out.size;have:=HYK.out.size;omega
   have HA9':=zh hA9;have HF9:=zh (show ∀k,(∃a,A2=some a/\k=a.block)->¬M6 k/\¬R6 k from fun k hk=>by
    have h1:=HAB.out k hk;refine⟨fun hm=>?_,fun hr=>?_⟩
    ·rcases HM6.out.1 k hm with h2 | h2
     ·have:=HM.out.min k h2;omega
     ·omega
    ·rcases HM6.out.2.1 k hr with h2 | h2
     ·have:=HM.out.rin k h2;omega
     ·omega)
   have HTM:=zh (vtimer_ok h _ U M6 R6 A8 c8 l8 uA uc V9 (HV7.out.keepF HK9.out HF9.out) (by show 0<=s2.C.ro/\s2.C.ro<=1073741824;rw[show s2.C=s1.C from (congrArg (fun q=>q.2.2.C) HS2.out).symm.trans (take_C s1 n z),HK1.out.1];exact HVD.out.2.2.2.2.2));clear hA9;go_upto_region 27 with (go_at_call 81;refine HTM.out.mono ?_;rintro e V10 ⟨rfl,hV10,hK10⟩;have HV10:=zh hV10;have HK10:=zh hK10;clear hV10 hK10)
   go_wp2;go_ret2;have hrc:=receive_good (by have:=HBT.out;omega) HS1.out.symm HS2.out;have hkw:KeepF (fun k=>k=h) w V10:=((HYK.out.trans HK7.out (fun _ _ h=>h)).trans HK9.out (fun k hk hf=>by have:=(HAB.out k hf).1;omega)).trans HK10.out (fun _ _ h=>h);have hn:(lo++lo7).length=no+n7:=by rw[List.length_append,<-HNO.out,<-HN7.out]
   refine⟨A9,c9,lo++lo7,A8,c8,l8,M6,R6,by rw[hrc,hn];rfl,⟨?_,HA9'.out⟩,by rw[hrc,List.map_append,HLO.out,HLO7.out],fun y hy=>?_,by rw[hrc];exact HV10.out,fun k hk=>?_,fun k hk=>?_,hkw⟩
   ·rw[hn,List.map_append]
    exact HS9.out.keepF HK10.out (fun a ha e=>by have:=HA9'.out a ha;have:=HM.out.min _ HM.out.mh;omega)
   ·rcases List.mem_append.1 hy with h1 | h1
    ·exact(HPKW.out V10 hkw y h1).mono HM6.out.2.2
    ·exact(((HY1.out.pk y (HSUB7.out y h1)).keep HK7.out (fun k hf hr=>HY1.out.dis k (by rw[hf];exact HY1.out.mh) hr)).keep HK9.out (fun k hf=>(HF9.out k hf).2)).keep HK10.out (fun k hf hr=>HY1.out.dis k (by rw[hf];exact HY1.out.mh) hr)
   ·rcases HM6.out.1 k hk with h2 | h2
    ·exact .inl h2
    ·exact .inr (by have:=HKV.out.size;have:=HV1.out.size;omega)
   ·rcases HM6.out.2.1 k hk with h2 | h2
    ·exact .inl h2
    ·exact .inr (by have:=HKV.out.size;have:=HV1.out.size;omega)
end Go.Proofs.YtnadmdadcpemnaaGreat
