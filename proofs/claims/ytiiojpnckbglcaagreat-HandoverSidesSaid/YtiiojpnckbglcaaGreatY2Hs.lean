import Derived.Test.YtiiojpnckbglcaaGreatMZAs
import Derived.Test.YtiiojpnckbglcaaGreatB1s
set_option maxRecDepth 100000
set_option maxHeartbeats 3200000
set_option linter.unusedVariables false
set_option linter.unusedSimpArgs false
namespace Go.Proofs.YtiiojpnckbglcaaGreat
open Go.RowKit
attribute [local go_sem ↓] Go.wp_at_zero Go.wp_at_succ
section
variable {w w1:World} {g:Nat} {s:TS} {W R:Nat->Prop} {qA:Option Addr} {qc:Nat} {lq:List WE} {pA:Option Addr} {pc:Nat} {lp:List PE} {ub cb:Nat}
theorem bN.setCb (h:bN w g s W R qA qc lq pA pc lp ub cb) (hk:aa (fun k=>k=cb) w w1) {o:Obj} (ho:w1.heap[cb]? = some o):bN w1 g { s with comp:=o } W R qA qc lq pA pc lp ub cb:=by
 have pk:∀{A:Option Addr} {n c:Nat} {z:Nat->Int},ci w R A n c z->ci w1 R A n c z:=fun hp=>hp.keep hk (fun k e hr=>h.dis k (by rw[e];exact h.wc) hr)
 exact⟨hk.blk h.blk (fun e=>h.kg e.symm),h.qv,h.pv,h.q.keepF hk (fun a e h2=>h.kq a e h2.symm),h.p.keepF hk (fun a e h2=>h.kp a e h2.symm),h.u.keep (hk.block ub h.u.lt (fun e=>h.ku e.symm)),ho,
  fun e he=>pk (h.qe e he),fun e he=>pk (h.pe e he),h.pr,h.wg,h.wu,h.wc,h.wq,h.wp,h.kg,h.ku,h.kq,h.kp,h.dis,
  fun k hw=>bg (h.win k hw) hk.size,fun k hw=>bg (h.rin k hw) hk.size,h.now0,h.next0⟩
end
structure KF where
 n:aZ->Obj->Nat->(Nat->Int)->Nat
 z:aZ->Obj->Nat->(Nat->Int)->Nat->Int
 o:aZ->Obj->Nat->(Nat->Int)->Obj
 ok:Obj->Int->Prop
def TS.sendF (F:KF) (s:TS) (t:Int):NX:=
 if 1073741824<=t then ⟨0,zB,0,2,s⟩ else
 match bo s.P with
 | some (i,p)=>⟨cy s.C (F.n s.C s.comp p.n p.z),gL s.C p.ct.toNat (F.n s.C s.comp p.n p.z) (nf (F.z s.C s.comp p.n p.z)),p.ct,0,{ s.tick t with P:=s.P.set i { p with rep:=false },comp:=F.o s.C s.comp p.n p.z }⟩
 | none=>
  match (s.tick t).Q with
  | []=>⟨0,zB,0,10,s.tick t⟩
  | q :: r=>
   if s.next=4294967296 then ⟨0,zB,0,460,s.tick t⟩ else
   if s.full=true then ⟨0,zB,0,7,s.tick t⟩ else
   ⟨cy s.C (F.n s.C s.comp q.n q.z),gL s.C s.next.toNat (F.n s.C s.comp q.n q.z) (nf (F.z s.C s.comp q.n q.z)),s.next,0,{ s.tick t with Q:=r,next:=s.next+1,P:=if s.C.ac=true then s.P++[⟨s.next,q.n,q.z,false⟩] else s.P,comp:=F.o s.C s.comp q.n q.z }⟩
def mn (F:KF) (cf:aZ) (cb:Nat) (o:Obj) (ct n:Nat) (z:Nat->Int) (w:World) (e:Ending) (w':World):Prop:=
 ∃A c,e=.returned (.tuple #[.slice A (cy cf (F.n cf o n z)) c,.int .i64 0])/\cy cf (F.n cf o n z)<=c/\(∀a,A=some a->w.heap.size<=a.block/\∃cur t,w'.heap[a.block]? = some (.cells cur t (0,0)))/\au w' w'.heap.size A (cy cf (F.n cf o n z)) (fun j=>.int .u8 ((gL cf ct (F.n cf o n z) (nf (F.z cf o n z)) j:Nat):Int))/\aa (fun k=>k=cb) w w'/\w'.heap[cb]? = some (F.o cf o n z)
def jE (F:KF) (g:Nat) (C:aZ):Prop:=∀(s:TS) (o:Obj) (W R:Nat->Prop) (qA:Option Addr) (qc:Nat) (lq:List WE) (pA:Option Addr) (pc:Nat) (lp:List PE) (ub cb:Nat) (V:World),s.C=C->s.comp=o->bN V g s W R qA qc lq pA pc lp ub cb->∀m:Int,m < 4611686018427387903->F.ok o m->∀(ct:Nat),ct < 4294967296->∀(A:Option Addr) (n c:Nat) (z:Nat->Int),1<=n->n<=9000->n<=c->au V V.heap.size A n (fun j=>.int .u8 (z j))->(∀j,j < n->0<=z j/\z j < 256)->(∀a,A=some a->a.block ≠ cb)->
 Calls Tryz.prog 46 #[.pointer (some ⟨g,0,none⟩),.int .u32 ct,.slice A n c] V (mn F C cb o ct n z V)
theorem qi (F:KF) (g:Nat) (s:TS) (W R:Nat->Prop) (w:World) (h:dK w g s W R) (hf:s.Fine) (t:Int) (ht1:-9223372036854775808<=t) (ht2:t<=9223372036854775807) (ct:1073741824<=t) :
  Calls Tryz.prog 13 #[.pointer (some ⟨g,0,none⟩),.int .i64 t] w (va W R w g (s.sendF F t)):=by
 have HTK:=zh (bX g s W R w h hf t ht1 ht2);unfold TS.sendF;rw[if_pos ct];rw[if_pos ct,if_pos ct]at HTK;clear h hf;go_enter Tryz.func13,Tryz.ntmps13;go_wp2_with (go_at_call 42;refine(HTK.out).mono ?_;rintro e w1 ⟨rfl,hO⟩;have HO:=zh hO;clear hO);go_ret3
 exact mC HO.out 2
theorem qZ (F:KF) (g:Nat) (s:TS) (W R:Nat->Prop) (w:World) (h:dK w g s W R) (hf:s.Fine) (t:Int) (ht1:-9223372036854775808<=t) (ht2:t<=9223372036854775807) (ct:¬1073741824<=t) (hb:jE F g s.C) (mm:Int) (hmm:mm < 4611686018427387903) (hcp:F.ok s.comp mm) (i:Nat) (p:PV) (hrep:bo s.P=some (i,p)) :
  Calls Tryz.prog 13 #[.pointer (some ⟨g,0,none⟩),.int .i64 t] w (va W R w g (s.sendF F t)):=by
 have HBD:=zh hb;have HCP:=zh hcp;have HMM:=zh hmm;have HRP:=zh hrep;unfold TS.sendF;rw[if_neg ct,hrep];dsimp only;have HTK:=zh (bX g s W R w h hf t ht1 ht2);rw[if_neg ct,if_neg ct]at HTK;have HF1:=zh (hf.tick t);clear h hf hcp hmm;obtain⟨s1,hs1⟩:=af (s.tick t)
 have HS1:=zh hs1;have HC1:Hid (s1.C=s.C):=zh (by rw[hs1];rfl);have HP1:Hid (s1.P=s.P):=zh (by rw[hs1];rfl);have HO1:Hid (s1.comp=s.comp):=zh (by rw[hs1];rfl);have HN1:Hid (s1.next=s.next):=zh (by rw[hs1];rfl);rw[<-hs1]at HTK HF1;clear hs1;go_enter Tryz.func13,Tryz.ntmps13;go_upto_region 4 with (go_at_call 42;refine(HTK.out).mono ?_;rintro e w1 ⟨rfl,hO⟩;have HO:=zh hO;clear hO)
 obtain⟨W1,R1,hI1,hW1,hR1,hK1⟩:=HO.out;obtain⟨qA,qc,lq,pA,pc,lp,ub,cb,hT1⟩:=hI1;have T1:=zh hT1;have HW1:=zh hW1;have HR1:=zh hR1;have HK1:=zh hK1;clear hW1 hR1 hK1;obtain⟨m,hm⟩:=af lp.length
 have HM:=zh hm;have HRI:=zh (eR pA m pc lp hm w1 (by rw[hm];exact hT1.p));have cp:=hT1.cp;rw[<-hm]at cp;have hgl:=hT1.blk.lt;have hmc:=hT1.p.le;have hcm:=hT1.p.cmax;unfold maxLen at hcm;rw[<-hm]at hmc;have m9:(m:Int)<=9223372036854775807:=by omega
 have HRC:=zh (eU lp);rw[hT1.pv,HP1.out,<-hm]at HRC;clear hT1 hm;obtain⟨pe,hpe,HF0,hv⟩:∃pe,lp[i]? = some pe/\Hid (aL (et lp) 0 m=(i:Int))/\pe.v=p:=by
  rcases HRC.out with ⟨i',e',h1,h2,h3⟩ | ⟨_,h3⟩
  ·rw[HRP.out]at h3
   cases h3
   exact⟨e',h1,zh h2,rfl⟩
  ·rw[HRP.out]at h3
   cases h3
 subst hv;rw[HF0.out]at HRI;have him:i < m:=by rw[HM.out];exact(List.getElem?_eq_some_iff.1 hpe).1
 have HPE:=zh hpe;have i0:(0:Int)<=(i:Int):=by omega
 have i1:(i:Int) < (m:Int):=by omega
 clear hrep hpe HF0 HRC;go_upto_region 5 with (go_at_call 44;refine(HRI.out).mono ?_;rintro e w2 ⟨rfl,hB⟩;have E2:=zh hB;clear hB)
 have T2:=zh (T1.out.below E2.out);obtain⟨b,o,hpA,hbl,d0,d1,d2⟩:=T2.out.pcell HPE.out;subst hpA;have cp2:=T2.out.cp;rw[<-HM.out]at cp2;have hpr:=T2.out.pr pe.v (by rw[<-T2.out.pv];exact List.mem_map_of_mem (List.mem_of_getElem? HPE.out));obtain⟨CT,hCT⟩:∃CT:Nat,CT=pe.v.ct.toNat:=⟨_,rfl⟩
 have HCT:=zh hCT;have HCI:Hid (pe.v.ct=(CT:Int)):=zh (by rw[hCT];omega);have HCL:Hid (CT < 4294967296):=zh (by rw[hCT];omega);rw[HCI.out]at d0;have PK:=zh (T2.out.pe pe (List.mem_of_getElem? HPE.out));obtain⟨PA,hPA⟩:=af pe.A
 obtain⟨pn,hpn⟩:=af pe.v.n
 obtain⟨pz,hpz⟩:=af pe.v.z
 obtain⟨pcc,hpcc⟩:=af pe.c
 have HPN:=zh hpn;have HPZ:=zh hpz;rw[<-hPA,<-hpn,<-hpz,<-hpcc]at PK;rw[<-hPA,<-hpn,<-hpcc]at d1;clear hpr hCT hPA hpn hpz hpcc cp;go_upto_region 7 with (fail)
 obtain⟨w0,hw0⟩:=af w2.drew
 have hb0:Below w2.heap.size w2 w0:=by rw[hw0];exact(Below.refl _ _).drew
 have hbc:¬b=cb:=fun e=>T2.out.kp _ rfl e.symm;have HD0:=zh (show ∀W',aa (fun k=>k=cb) w2 W'->W'.cell? ⟨b,o+i*3,none⟩=some (.int .u32 (CT:Int))from fun W' hW=>(hW.cell (p:=⟨b,o+i*3,none⟩) hbl hbc).trans d0);have HD1:=zh (show ∀W',aa (fun k=>k=cb) w2 W'->W'.cell? ⟨b,o+i*3+1,none⟩=some (.slice PA pn pcc)from fun W' hW=>(hW.cell (p:=⟨b,o+i*3+1,none⟩) hbl hbc).trans d1);have HD2:=zh d2;have HBU:=zh (HBD.out s1 s.comp W1 R1 _ _ _ _ _ _ _ _ w0 HC1.out HO1.out (T2.out.below hb0) mm HMM.out HCP.out CT HCL.out PA pn pcc pz PK.out.pos PK.out.max PK.out.cap (PK.out.row.next hb0) PK.out.byte (fun a e hc=>T2.out.dis cb T2.out.wc (by rw[<-hc];exact PK.out.ro a e)));refine wp_region_held_drew (S:=fun w'=>aa (fun k=>k=cb) w2 w') (by kernel_rfl) (aa.of_below (Below.refl _ w2).drew) (fun hHeld=>?_);rw[<-hw0];rw[<-hw0]at hHeld;clear hw0 cp2 d0 d1 d2 hbc;refine dF (i:=0) (x:=some 36) (v:=.pointer (some ⟨g,0,none⟩)) rfl ?_;refine dF (i:=1) (x:=some 37) (v:=.pointer (some ⟨b,o+i*3,none⟩)) rfl ?_;refine bF (i:=2) (x:=some 38) (v:=.pointer (some ⟨b,o+i*3,none⟩)) rfl ?_;refine bF (i:=3) (x:=some 39) (v:=.pointer (some ⟨b,o+i*3,none⟩)) rfl ?_;refine bF (i:=4) (x:=some 40) (v:=.pointer (some ⟨b,o+i*3,none⟩)) rfl ?_;refine ed (i:=5) (x:=some 41) (v:=.int .u32 (CT:Int)) rfl (.inl ⟨by rfl,fun W hW=>(by have:=HD0.out W hW;go_simp)⟩) ?_;refine dF (i:=6) (x:=some 42) (v:=.pointer (some ⟨b,o+i*3,none⟩)) rfl ?_;refine bF (i:=7) (x:=some 43) (v:=.pointer (some ⟨b,o+i*3,none⟩)) rfl ?_;refine bF (i:=8) (x:=some 44) (v:=.pointer (some ⟨b,o+i*3,none⟩)) rfl ?_;refine bF (i:=9) (x:=some 45) (v:=.pointer (some ⟨b,o+i*3+1,none⟩)) rfl ?_;refine ed (i:=10) (x:=some 46) (v:=.slice PA pn pcc) rfl (.inl ⟨by rfl,fun W hW=>(by have:=HD1.out W hW;go_simp)⟩) ?_;refine bc (i:=11) (x:=some 47) rfl fun K hK=>?_;go_simp;refine(HBU.out).mono ?_;rintro e w3 ⟨A3,c3,rfl,hc3,hF3,hR3,hB3,hO3⟩;dsimp only;have HC3:=zh hc3;have HF3:=zh hF3;have HR3:=zh hR3;have HB3:=zh hB3;have HOO:=zh hO3;obtain⟨N3,hN3⟩:=af (cy s.C (F.n s.C s.comp pn pz))
 have HN3:=zh hN3;rw[<-hN3]at HC3 HR3 ⊢;have H3:aa (fun k=>k=cb) w2 w3:=hHeld.trans hB3 (fun _ _ h=>h);refine hK.out _ _ H3 (fun hHeld=>?_);clear hK K hR3 hF3 hc3 hB3 hN3 hO3
 try simp only[Act.put,qa,qb,qc]
 refine dF (i:=12) (x:=some 35) (v:=.tuple #[.slice A3 N3 c3,.int .i64 0]) rfl ?_;refine bF (i:=13) (x:=some 48) (v:=.slice A3 N3 c3) rfl ?_;refine dF (i:=15) (x:=some 10) (v:=.slice A3 N3 c3) rfl ?_;refine bF (i:=14) (x:=some 49) (v:=.int .i64 0) rfl ?_;refine dF (i:=16) (x:=some 11) (v:=.int .i64 0) rfl ?_;refine wpAnyH_done (by kernel_rfl) ?_ _;have HH3:=zh H3;clear H3 hHeld;have hbc:¬b=cb:=fun e=>T2.out.kp _ rfl e.symm;have T3:=zh (T2.out.setCb HH3.out HOO.out);have e2:w3.cell? ⟨b,o+i*3+2,none⟩=some (.bool pe.v.rep):=(HH3.out.cell (p:=⟨b,o+i*3+2,none⟩) hbl hbc).trans HD2.out;have e0:=HD0.out w3 HH3.out;have f2:=T3.out.p.frozen rfl (o+i*3+2);have HQ:=zh (show SL (w3.setCell ⟨b,o+i*3+2,none⟩ (.bool false)) 94 3 (some ⟨b,o,none⟩) lp.length pc ((lp.set i { pe with v:={ pe.v with rep:=false } }).flatMap PE.cells)from by
  have:=T3.out.p.setOne (i*3+2) (by rw[<-HM.out];omega) (.bool false);rw[vI lp i pe HPE.out,<-Nat.add_assoc]at this
  exact this)
 have HKF:=zh ((aa.refl (F:=fun k=>∃a,(some ⟨b,o,none⟩:Option Addr)=some a/\k=a.block) (w:=w3)).setCell (p:=⟨b,o+i*3+2,none⟩) ⟨_,rfl,rfl⟩ (.bool false));have T4:=zh (T3.out.putP (lp':=lp.set i { pe with v:={ pe.v with rep:=false } }) HKF.out HQ.out (by rw[List.length_set]) (fun e he=>by
  have hk:ci w3 R1 e.A e.v.n e.c e.v.z:=by
   rcases List.mem_or_eq_of_mem_set he with h | h
   ·exact T3.out.pe e h
   ·subst h
    exact T3.out.pe pe (List.mem_of_getElem? HPE.out)
  exact hk.keep HKF.out (fun k ⟨a,ha,e2⟩ hr=>T3.out.dis k (by rw[e2];exact T3.out.wp a ha) hr)) (fun e he=>by
  rcases List.mem_or_eq_of_mem_set he with h | h
  ·exact T3.out.pr e.v (by rw[<-T3.out.pv];exact List.mem_map_of_mem h)
  ·subst h
   exact T3.out.pr pe.v (by rw[<-T3.out.pv];exact List.mem_map_of_mem (List.mem_of_getElem? HPE.out))))
 go_upto_region 11 with (fail)
 refine ag (fun V=>V=w3.setCell ⟨b,o+i*3+2,none⟩ (.bool false)) rfl ?_;intro w4 hw4;rw[<-hw4]at HQ HKF T4;have HW4:=zh hw4;clear hw4 e0 e2 f2 hbc;obtain⟨b',o',hbo,_,g0,_,_⟩:=T4.out.pcell (k:=i) (e:={ pe with v:={ pe.v with rep:=false } }) (by rw[List.getElem?_set_self (by rw[<-HM.out];exact him)])
 cases hbo
 dsimp only at g0;rw[HCI.out]at g0;go_quiet (fail);go_wp2;go_ret3;have hN:cy s.C (F.n s.C s.comp pe.v.n pe.v.z)=N3:=by rw[HN3.out,HPN.out,HPZ.out]
 have hZ:gL s.C pe.v.ct.toNat (F.n s.C s.comp pe.v.n pe.v.z) (nf (F.z s.C s.comp pe.v.n pe.v.z))=gL s.C CT (F.n s.C s.comp pn pz) (nf (F.z s.C s.comp pn pz)):=by rw[HCT.out,HPN.out,HPZ.out]
 have hS:({ s.tick t with P:=s.P.set i { pe.v with rep:=false },comp:=F.o s.C s.comp pe.v.n pe.v.z }:TS)={ s1 with comp:=F.o s.C s.comp pn pz,P:=(lp.set i { pe with v:={ pe.v with rep:=false } }).map (·.v) }:=by
  rw[List.map_set,T1.out.pv,HP1.out,<-HS1.out,HPN.out,HPZ.out]
 have hsz:w1.heap.size<=w2.heap.size:=E2.out.size;have hs0:w.heap.size<=w1.heap.size:=HK1.out.size;have h4s:w2.heap.size<=w3.heap.size:=HH3.out.size;have hfr:∀a,A3=some a->w2.heap.size<=a.block:=fun a e=>ba hb0.size (HF3.out a e).1;have hbw:b < w2.heap.size:=hbl;refine⟨A3,c3,W1,R1,?_,?_,?_,?_,HW1.out,HR1.out,?_,?_⟩
 ·show _=Ending.returned (.tuple #[.slice A3 (cy s.C (F.n s.C s.comp pe.v.n pe.v.z)) c3,.int .u32 pe.v.ct,.int .i64 0]);rw[hN,HCI.out]
  rfl
 ·show cy s.C (F.n s.C s.comp pe.v.n pe.v.z)<=c3;rw[hN]
  exact HC3.out
 ·show au _ _ A3 (cy s.C (F.n s.C s.comp pe.v.n pe.v.z)) (fun j=>.int .u8 ((gL s.C pe.v.ct.toNat (F.n s.C s.comp pe.v.n pe.v.z) (nf (F.z s.C s.comp pe.v.n pe.v.z)) j:Nat):Int));rw[hN,hZ];refine((HKF.out.row HR3.out ao (fun a e _ ⟨a',ha',e'⟩=>?_)).more HKF.out.size).next (aE (Below.refl _ _) _)
  cases ha'
  have:=hfr a e;have e':a.block=b:=e';omega
 ·show dK _ g ({ s.tick t with P:=s.P.set i { pe.v with rep:=false },comp:=F.o s.C s.comp pe.v.n pe.v.z }:TS) W1 R1;rw[hS]
  exact⟨_,_,_,_,_,_,_,_,T4.out.below (aE (Below.refl _ _) _)⟩
 ·exact((HK1.out.trans (((aa.of_below (F:=W1) E2.out).trans (HH3.out.mono (G:=W1) (fun k e=>by subst e;exact T2.out.wc)) (fun _ _ h=>h)).trans (HKF.out.mono (G:=W1) (fun k ⟨a,ha,e⟩=>by rw[e];exact T3.out.wp a ha)) (fun _ _ h=>h)) (fun k hk h=>by
   rcases HW1.out k h with h | h
   ·exact h
   ·omega)).more (aE (Below.refl _ _) _))
 ·intro a e;have:=hfr a e;obtain⟨cur,t,hu⟩:=(HF3.out a e).2
  exact⟨by omega,fun h=>by have:=T1.out.win _ h;omega,fun h=>by have:=T1.out.rin _ h;omega,cur,t,(HKF.out.block a.block (Array.getElem?_eq_some_iff.1 hu).1 (fun⟨a',ha',e'⟩=>by
   cases ha'
   have e':a.block=b:=e';omega)).trans hu⟩
theorem pN (F:KF) (g:Nat) (s:TS) (W R:Nat->Prop) (w:World) (h:dK w g s W R) (hf:s.Fine) (t:Int) (ht1:-9223372036854775808<=t) (ht2:t<=9223372036854775807) (ct:¬1073741824<=t) (hrep:bo s.P=none) (hq:(s.tick t).Q=[]) :
  Calls Tryz.prog 13 #[.pointer (some ⟨g,0,none⟩),.int .i64 t] w (va W R w g (s.sendF F t)):=by
 have HRP:=zh hrep;unfold TS.sendF;rw[if_neg ct,hrep];dsimp only;rw[hq];dsimp only;have HQ0:=zh hq;clear hq;have HTK:=zh (bX g s W R w h hf t ht1 ht2);rw[if_neg ct,if_neg ct]at HTK;have HF1:=zh (hf.tick t);clear h hf;obtain⟨s1,hs1⟩:=af (s.tick t)
 have HS1:=zh hs1;have HC1:Hid (s1.C=s.C):=zh (by rw[hs1];rfl);have HP1:Hid (s1.P=s.P):=zh (by rw[hs1];rfl);have HN1:Hid (s1.next=s.next):=zh (by rw[hs1];rfl);rw[<-hs1]at HTK HF1;clear hs1;go_enter Tryz.func13,Tryz.ntmps13;go_upto_region 4 with (go_at_call 42;refine(HTK.out).mono ?_;rintro e w1 ⟨rfl,hO⟩;have HO:=zh hO;clear hO)
 obtain⟨W1,R1,hI1,hW1,hR1,hK1⟩:=HO.out;obtain⟨qA,qc,lq,pA,pc,lp,ub,cb,hT1⟩:=hI1;have T1:=zh hT1;have HW1:=zh hW1;have HR1:=zh hR1;have HK1:=zh hK1;clear hW1 hR1 hK1;obtain⟨m,hm⟩:=af lp.length
 have HM:=zh hm;have HRI:=zh (eR pA m pc lp hm w1 (by rw[hm];exact hT1.p));have cp:=hT1.cp;rw[<-hm]at cp;have hgl:=hT1.blk.lt;have hmc:=hT1.p.le;have hcm:=hT1.p.cmax;unfold maxLen at hcm;rw[<-hm]at hmc;have m9:(m:Int)<=9223372036854775807:=by omega
 have HRC:=zh (eU lp);rw[hT1.pv,HP1.out,<-hm]at HRC;clear hT1 hm;have HF0:Hid (aL (et lp) 0 m = -1):=by
  rcases HRC.out with ⟨i',e',h1,h2,h3⟩ | ⟨h2,_⟩
  ·rw[HRP.out]at h3
   cases h3
  ·exact zh h2
 rw[HF0.out]at HRI;clear hrep HF0 HRC;obtain⟨lqn,hnq⟩:=af lq.length
 have HNQ:=zh hnq;clear hnq;go_upto_region 12 with (go_at_call 44;refine(HRI.out).mono ?_;rintro e w2 ⟨rfl,hB⟩;have E2:=zh hB;clear hB)
 have T2:=zh (T1.out.below E2.out);have cq:=T2.out.cq;rw[<-HNQ.out]at cq;have hO2:=zh (show jy W R w w2 g s1 from jy.comp HW1.out HR1.out HK1.out ⟨W1,R1,⟨_,_,_,_,_,_,_,_,T2.out⟩,fun _ h=>.inl h,fun _ h=>.inl h,aa.of_below E2.out⟩);clear cp;have hn0:lqn=0:=by
  rw[HNQ.out];have:=congrArg List.length T2.out.qv;rw[HS1.out,HQ0.out,List.length_map]at this
  exact this
 subst hn0;go_wp2;go_ret3;rw[<-HS1.out]
 exact mC hO2.out 10
theorem oI (F:KF) (g:Nat) (s:TS) (W R:Nat->Prop) (w:World) (h:dK w g s W R) (hf:s.Fine) (t:Int) (ht1:-9223372036854775808<=t) (ht2:t<=9223372036854775807) (ct:¬1073741824<=t) (hrep:bo s.P=none) (q:QV) (r:List QV) (hq:(s.tick t).Q=q :: r) (hnx:s.next=4294967296) :
  Calls Tryz.prog 13 #[.pointer (some ⟨g,0,none⟩),.int .i64 t] w (va W R w g (s.sendF F t)):=by
 have HRP:=zh hrep;unfold TS.sendF;rw[if_neg ct,hrep];dsimp only;rw[hq];dsimp only;rw[if_pos hnx];have HQ0:=zh hq;have HNX:=zh hnx;clear hq hnx;have HTK:=zh (bX g s W R w h hf t ht1 ht2);rw[if_neg ct,if_neg ct]at HTK;have HF1:=zh (hf.tick t);clear h hf;obtain⟨s1,hs1⟩:=af (s.tick t)
 have HS1:=zh hs1;have HC1:Hid (s1.C=s.C):=zh (by rw[hs1];rfl);have HP1:Hid (s1.P=s.P):=zh (by rw[hs1];rfl);have HN1:Hid (s1.next=s.next):=zh (by rw[hs1];rfl);rw[<-hs1]at HTK HF1;clear hs1;go_enter Tryz.func13,Tryz.ntmps13;go_upto_region 4 with (go_at_call 42;refine(HTK.out).mono ?_;rintro e w1 ⟨rfl,hO⟩;have HO:=zh hO;clear hO)
 obtain⟨W1,R1,hI1,hW1,hR1,hK1⟩:=HO.out;obtain⟨qA,qc,lq,pA,pc,lp,ub,cb,hT1⟩:=hI1;have T1:=zh hT1;have HW1:=zh hW1;have HR1:=zh hR1;have HK1:=zh hK1;clear hW1 hR1 hK1;obtain⟨m,hm⟩:=af lp.length
 have HM:=zh hm;have HRI:=zh (eR pA m pc lp hm w1 (by rw[hm];exact hT1.p));have cp:=hT1.cp;rw[<-hm]at cp;have hgl:=hT1.blk.lt;have hmc:=hT1.p.le;have hcm:=hT1.p.cmax;unfold maxLen at hcm;rw[<-hm]at hmc;have m9:(m:Int)<=9223372036854775807:=by omega
 have HRC:=zh (eU lp);rw[hT1.pv,HP1.out,<-hm]at HRC;clear hT1 hm;have HF0:Hid (aL (et lp) 0 m = -1):=by
  rcases HRC.out with ⟨i',e',h1,h2,h3⟩ | ⟨h2,_⟩
  ·rw[HRP.out]at h3
   cases h3
  ·exact zh h2
 rw[HF0.out]at HRI;clear hrep HF0 HRC;obtain⟨lqn,hnq⟩:=af lq.length
 have HNQ:=zh hnq;clear hnq;go_upto_region 12 with (go_at_call 44;refine(HRI.out).mono ?_;rintro e w2 ⟨rfl,hB⟩;have E2:=zh hB;clear hB)
 have T2:=zh (T1.out.below E2.out);have cq:=T2.out.cq;rw[<-HNQ.out]at cq;have hO2:=zh (show jy W R w w2 g s1 from jy.comp HW1.out HR1.out HK1.out ⟨W1,R1,⟨_,_,_,_,_,_,_,_,T2.out⟩,fun _ h=>.inl h,fun _ h=>.inl h,aa.of_below E2.out⟩);clear cp;have hnq1:1<=lqn:=by
  rw[HNQ.out];have:=congrArg List.length T2.out.qv;rw[HS1.out,HQ0.out,List.length_map,List.length_cons]at this;omega
 have q1:¬((lqn:Int)=0):=by omega
 have cn:=T2.out.cnext;rw[HN1.out,HNX.out]at cn;go_wp2;go_ret3;rw[<-HS1.out]
 exact mC hO2.out 460
theorem oN (F:KF) (g:Nat) (s:TS) (W R:Nat->Prop) (w:World) (h:dK w g s W R) (hf:s.Fine) (t:Int) (ht1:-9223372036854775808<=t) (ht2:t<=9223372036854775807) (ct:¬1073741824<=t) (hrep:bo s.P=none) (q:QV) (r:List QV) (hq:(s.tick t).Q=q :: r) (hnx:s.next ≠ 4294967296) (hfu:s.full=true) :
  Calls Tryz.prog 13 #[.pointer (some ⟨g,0,none⟩),.int .i64 t] w (va W R w g (s.sendF F t)):=by
 have HRP:=zh hrep;unfold TS.sendF;rw[if_neg ct,hrep];dsimp only;rw[hq];dsimp only;rw[if_neg hnx,if_pos hfu];have HQ0:=zh hq;have HNX:=zh hnx;have HFU:=zh hfu;clear hq hnx hfu;have HTK:=zh (bX g s W R w h hf t ht1 ht2);rw[if_neg ct,if_neg ct]at HTK;have HF1:=zh (hf.tick t);clear h hf;obtain⟨s1,hs1⟩:=af (s.tick t)
 have HS1:=zh hs1;have HC1:Hid (s1.C=s.C):=zh (by rw[hs1];rfl);have HP1:Hid (s1.P=s.P):=zh (by rw[hs1];rfl);have HN1:Hid (s1.next=s.next):=zh (by rw[hs1];rfl);rw[<-hs1]at HTK HF1;clear hs1;go_enter Tryz.func13,Tryz.ntmps13;go_upto_region 4 with (go_at_call 42;refine(HTK.out).mono ?_;rintro e w1 ⟨rfl,hO⟩;have HO:=zh hO;clear hO)
 obtain⟨W1,R1,hI1,hW1,hR1,hK1⟩:=HO.out;obtain⟨qA,qc,lq,pA,pc,lp,ub,cb,hT1⟩:=hI1;have T1:=zh hT1;have HW1:=zh hW1;have HR1:=zh hR1;have HK1:=zh hK1;clear hW1 hR1 hK1;obtain⟨m,hm⟩:=af lp.length
 have HM:=zh hm;have HRI:=zh (eR pA m pc lp hm w1 (by rw[hm];exact hT1.p));have cp:=hT1.cp;rw[<-hm]at cp;have hgl:=hT1.blk.lt;have hmc:=hT1.p.le;have hcm:=hT1.p.cmax;unfold maxLen at hcm;rw[<-hm]at hmc;have m9:(m:Int)<=9223372036854775807:=by omega
 have HRC:=zh (eU lp);rw[hT1.pv,HP1.out,<-hm]at HRC;clear hT1 hm;have HF0:Hid (aL (et lp) 0 m = -1):=by
  rcases HRC.out with ⟨i',e',h1,h2,h3⟩ | ⟨h2,_⟩
  ·rw[HRP.out]at h3
   cases h3
  ·exact zh h2
 rw[HF0.out]at HRI;clear hrep HF0 HRC;obtain⟨lqn,hnq⟩:=af lq.length
 have HNQ:=zh hnq;clear hnq;go_upto_region 12 with (go_at_call 44;refine(HRI.out).mono ?_;rintro e w2 ⟨rfl,hB⟩;have E2:=zh hB;clear hB)
 have T2:=zh (T1.out.below E2.out);have cq:=T2.out.cq;rw[<-HNQ.out]at cq;have hO2:=zh (show jy W R w w2 g s1 from jy.comp HW1.out HR1.out HK1.out ⟨W1,R1,⟨_,_,_,_,_,_,_,_,T2.out⟩,fun _ h=>.inl h,fun _ h=>.inl h,aa.of_below E2.out⟩);clear cp;have hnq1:1<=lqn:=by
  rw[HNQ.out];have:=congrArg List.length T2.out.qv;rw[HS1.out,HQ0.out,List.length_map,List.length_cons]at this;omega
 have q1:¬((lqn:Int)=0):=by omega
 have cn:=T2.out.cnext;have hn0:=T2.out.next0;obtain⟨nx,hnx⟩:=af s1.next
 have HX:=zh hnx;rw[<-hnx]at cn hn0;have x0:¬nx=4294967296:=by rw[hnx,HN1.out];exact HNX.out
 have cp:=T2.out.cp;rw[<-HM.out]at cp;have HPV:=zh T2.out.pv;have hm1:0 < m:=by
  rw[HM.out];have hfu:=HFU.out;unfold TS.full at hfu;rw[<-HP1.out,<-HPV.out]at hfu
  cases lp with
  | nil=>cases hfu
  | cons x l=>simp
 obtain⟨p0,hp0⟩:∃p0,lp[0]? = some p0:=⟨lp[0]'(by rw[<-HM.out];exact hm1),List.getElem?_eq_getElem _⟩
 have HFL:=zh (show decide (2048<=IntKind.u64.wrap (nx-p0.v.ct))=true from by
  refine decide_eq_true ?_;rw[show IntKind.u64.wrap (nx-p0.v.ct)=(nx-p0.v.ct) % 18446744073709551616 from rfl];have hfu:=HFU.out;unfold TS.full at hfu;rw[<-HP1.out,<-HPV.out,<-HN1.out,<-HX.out]at hfu
  cases lp with
  | nil=>cases hfu
  | cons x l=>
   have:x=p0:=by simpa using hp0
   subst this;simpa using hfu)
 obtain⟨b,o,hpA,hbl,d0,d1,d2⟩:=T2.out.pcell hp0;subst hpA;rw[Nat.zero_mul,Nat.add_zero]at d0;obtain⟨y,hy⟩:=af p0.v.ct
 have hyr:=T2.out.pr p0.v (by rw[<-T2.out.pv];exact List.mem_map_of_mem (List.mem_of_getElem? hp0));rw[<-hy]at d0 hyr HFL;have hfl:=HFL.out;have m0:(0:Int) < (m:Int):=by omega
 have dm:decide ((0:Int) < (m:Int))=true:=decide_eq_true m0;clear hnx hy hp0 d1 d2;go_upto_region 16 with (fail)
 go_quiet (fail);go_wp2;go_ret3;rw[<-HS1.out]
 exact mC (hO2.out.next (aE (Below.refl _ _) _)) 7
theorem ri (F:KF) (g:Nat) (s:TS) (W R:Nat->Prop) (w:World) (h:dK w g s W R) (hf:s.Fine) (t:Int) (ht1:-9223372036854775808<=t) (ht2:t<=9223372036854775807) (ct:¬1073741824<=t) (hb:jE F g s.C) (mm:Int) (hmm:mm < 4611686018427387903) (hcp:F.ok s.comp mm) (hpl:s.P.length<=1000000) (hrep:bo s.P=none) (q:QV) (r:List QV) (hq:(s.tick t).Q=q :: r) (hnx:s.next ≠ 4294967296) (hfu:¬s.full=true) :
  Calls Tryz.prog 13 #[.pointer (some ⟨g,0,none⟩),.int .i64 t] w (va W R w g (s.sendF F t)):=by
 have HRP:=zh hrep;unfold TS.sendF;rw[if_neg ct,hrep];dsimp only;rw[hq];dsimp only;rw[if_neg hnx,if_neg hfu];have HQ0:=zh hq;have HNX:=zh hnx;have HFU:=zh hfu;have HBD:=zh hb;have HCP:=zh hcp;have HMM:=zh hmm;have HPL:=zh hpl;clear hq hnx hfu hpl;have HTK:=zh (bX g s W R w h hf t ht1 ht2);rw[if_neg ct,if_neg ct]at HTK;have HF1:=zh (hf.tick t);clear h hf hcp hmm;obtain⟨s1,hs1⟩:=af (s.tick t)
 have HS1:=zh hs1;have HC1:Hid (s1.C=s.C):=zh (by rw[hs1];rfl);have HP1:Hid (s1.P=s.P):=zh (by rw[hs1];rfl);have HO1:Hid (s1.comp=s.comp):=zh (by rw[hs1];rfl);have HN1:Hid (s1.next=s.next):=zh (by rw[hs1];rfl);rw[<-hs1]at HTK HF1;clear hs1;go_enter Tryz.func13,Tryz.ntmps13;go_upto_region 4 with (go_at_call 42;refine(HTK.out).mono ?_;rintro e w1 ⟨rfl,hO⟩;have HO:=zh hO;clear hO)
 obtain⟨W1,R1,hI1,hW1,hR1,hK1⟩:=HO.out;obtain⟨qA,qc,lq,pA,pc,lp,ub,cb,hT1⟩:=hI1;have T1:=zh hT1;have HW1:=zh hW1;have HR1:=zh hR1;have HK1:=zh hK1;clear hW1 hR1 hK1;obtain⟨m,hm⟩:=af lp.length
 have HM:=zh hm;have HRI:=zh (eR pA m pc lp hm w1 (by rw[hm];exact hT1.p));have cp:=hT1.cp;rw[<-hm]at cp;have hgl:=hT1.blk.lt;have hmc:=hT1.p.le;have hcm:=hT1.p.cmax;unfold maxLen at hcm;rw[<-hm]at hmc;have m9:(m:Int)<=9223372036854775807:=by omega
 have HRC:=zh (eU lp);rw[hT1.pv,HP1.out,<-hm]at HRC;clear hT1 hm;have HF0:Hid (aL (et lp) 0 m = -1):=by
  rcases HRC.out with ⟨i',e',h1,h2,h3⟩ | ⟨h2,_⟩
  ·rw[HRP.out]at h3
   cases h3
  ·exact zh h2
 rw[HF0.out]at HRI;clear hrep HF0 HRC;obtain⟨lqn,hnq⟩:=af lq.length
 have HNQ:=zh hnq;clear hnq;go_upto_region 12 with (go_at_call 44;refine(HRI.out).mono ?_;rintro e w2 ⟨rfl,hB⟩;have E2:=zh hB;clear hB)
 have T2:=zh (T1.out.below E2.out);have cq:=T2.out.cq;rw[<-HNQ.out]at cq;have hO2:=zh (show jy W R w w2 g s1 from jy.comp HW1.out HR1.out HK1.out ⟨W1,R1,⟨_,_,_,_,_,_,_,_,T2.out⟩,fun _ h=>.inl h,fun _ h=>.inl h,aa.of_below E2.out⟩);clear cp;have hnq1:1<=lqn:=by
  rw[HNQ.out];have:=congrArg List.length T2.out.qv;rw[HS1.out,HQ0.out,List.length_map,List.length_cons]at this;omega
 have q1:¬((lqn:Int)=0):=by omega
 have cn:=T2.out.cnext;have hn0:=T2.out.next0;obtain⟨nx,hnx⟩:=af s1.next
 have HX:=zh hnx;rw[<-hnx]at cn hn0;have x0:¬nx=4294967296:=by rw[hnx,HN1.out];exact HNX.out
 have cp:=T2.out.cp;rw[<-HM.out]at cp;have HPV:=zh T2.out.pv;clear hnx;by_cases hm1:m=0
 focus
  have dm:decide ((0:Int) < (m:Int))=false:=decide_eq_false (by omega);have dm2:decide (0 < m)=false:=decide_eq_false (by omega);clear hm1;go_upto_region 16 with (fail)
  go_quiet (fail);go_upto_region 18 with (fail)
 rotate_left
 focus
  have hm1:0 < m:=by omega
  obtain⟨p0,hp0⟩:∃p0,lp[0]? = some p0:=⟨lp[0]'(by rw[<-HM.out];exact hm1),List.getElem?_eq_getElem _⟩
  have hfl0:¬2048<=(nx-p0.v.ct) % 18446744073709551616:=fun hc=>by
   have hfu:=HFU.out;unfold TS.full at hfu;rw[<-HP1.out,<-HPV.out,<-HN1.out,<-HX.out]at hfu
   cases lp with
   | nil=>cases hp0
   | cons x l=>
    have:x=p0:=by simpa using hp0
    subst this
    exact hfu (by simpa using hc)
  have hfl:decide (2048<=IntKind.u64.wrap (nx-p0.v.ct))=false:=decide_eq_false (by
   rw[show IntKind.u64.wrap (nx-p0.v.ct)=(nx-p0.v.ct) % 18446744073709551616 from rfl]
   exact hfl0)
  obtain⟨b,o,hpA,hbl,d0,d1,d2⟩:=T2.out.pcell hp0;subst hpA;rw[Nat.zero_mul,Nat.add_zero]at d0;obtain⟨y,hy⟩:=af p0.v.ct
  have hyr:=T2.out.pr p0.v (by rw[<-T2.out.pv];exact List.mem_map_of_mem (List.mem_of_getElem? hp0));rw[<-hy]at d0 hyr hfl;have m0:(0:Int) < (m:Int):=by omega
  have dm:decide ((0:Int) < (m:Int))=true:=decide_eq_true m0;clear hy hp0 d1 d2 hfl0;go_upto_region 16 with (fail)
  go_quiet (fail);go_upto_region 18 with (fail)
  clear d0;obtain⟨pA,hpA⟩:∃q:Option Addr,q=some ⟨b,o,none⟩:=⟨_,rfl⟩
  rw[<-hpA]at T2 ⊢;clear hpA
 all_goals
  refine ag (fun V=>bN V g s1 W1 R1 qA qc lq pA pc lp ub cb/\Below w2.heap.size w2 V) ⟨T2.out.below (aE (Below.refl _ _) _),aE (Below.refl _ _) _⟩ ?_;rintro V ⟨v1,v2⟩;have TV:=zh v1;have BV:=zh v2;clear v1 v2 cn cq cp;have cn:=TV.out.cnext;have cq:=TV.out.cq;rw[<-HNQ.out]at cq;rw[<-HX.out]at cn;obtain⟨e0,he0⟩:∃e0,lq[0]? = some e0:=⟨lq[0]'(by rw[<-HNQ.out];exact hnq1),List.getElem?_eq_getElem _⟩
  obtain⟨b2,o2,hqA,hb2,k0,k1⟩:=TV.out.qcell he0;subst hqA;rw[Nat.zero_mul,Nat.add_zero]at k0;have HE0:=zh he0;have PK:=zh (TV.out.qe e0 (List.mem_of_getElem? he0));obtain⟨PA,hPA⟩:=af e0.A
  obtain⟨pn,hpn⟩:=af e0.v.n
  obtain⟨pz,hpz⟩:=af e0.v.z
  obtain⟨pcc,hpcc⟩:=af e0.c
  have HPA:=zh hPA;have HPN:=zh hpn;have HPZ:=zh hpz;have HPC:=zh hpcc;rw[<-hPA,<-hpn,<-hpz,<-hpcc]at PK;rw[<-hPA,<-hpn,<-hpcc]at k0;have HEQ:Hid (e0.v=q/\(lq.drop 1).map (·.v)=r):=zh (by
   have hh:=T2.out.qv;rw[HS1.out,HQ0.out]at hh
   cases lq with
   | nil=>cases hh
   | cons x l=>
    have:x=e0:=by simpa using HE0.out
    subst this;injection hh with h1 h2
    exact⟨h1,h2⟩)
  obtain⟨N,hN⟩:∃N:Nat,N=nx.toNat:=⟨_,rfl⟩
  have HNN:Hid (nx=(N:Int)):=zh (by rw[hN];omega);have HNL:Hid (N < 4294967296):=zh (by rw[hN];omega);have HNT:=zh hN;have hnn:=HNN.out;have hnl:=HNL.out;subst hnn;have n32:(N:Int) % 4294967296=(N:Int):=by omega
  clear he0 hPA hpn hpz hpcc k1 hN;go_quiet (fail);go_upto_region 19 with (fail)
  refine ag (fun V2=>bN V2 g s1 W1 R1 (some ⟨b2,o2,none⟩) qc lq pA pc lp ub cb/\Below w2.heap.size w2 V2) ⟨TV.out.below (aE (Below.refl _ _) _),BV.out.trans (aE (Below.refl _ _) _)⟩ ?_;rintro V2 ⟨v1,v2⟩;have TU:=zh v1;have BU:=zh v2;clear v1 v2 cn cq k0;have hUs:V.heap.size<=V2.heap.size\/True:=.inr trivial;have PU:=zh (TU.out.qe e0 (List.mem_of_getElem? HE0.out));rw[<-HPA.out,<-HPN.out,<-HPZ.out,<-HPC.out]at PU;have HBU:=zh (HBD.out s1 s.comp W1 R1 _ _ _ _ _ _ _ _ V2 HC1.out HO1.out TU.out mm HMM.out HCP.out N HNL.out PA pn pcc pz PU.out.pos PU.out.max PU.out.cap PU.out.row PU.out.byte (fun a e hc=>TU.out.dis cb TU.out.wc (by rw[<-hc];exact PU.out.ro a e)));clear hUs;go_upto_region 20 with (go_at_call 46;refine(HBU.out).mono ?_;rintro e w3 ⟨A3,c3,rfl,hc3,hF3,hR3,hB3,hO3⟩;have HC3:=zh hc3;have HF3:=zh hF3;have HR3:=zh hR3;have HB3:=zh hB3;have HO3:=zh hO3;clear hc3 hF3 hR3 hB3 hO3)
  have T3':=TU.out.setCb HB3.out HO3.out;obtain⟨s2,hs2⟩:∃s2:TS,s2={ s1 with comp:=F.o s.C s.comp pn pz }:=⟨_,rfl⟩
  rw[<-hs2]at T3';have T3:=zh T3';have HS2:=zh hs2;have HX2:Hid ((N:Int)=s2.next):=zh (by rw[hs2];exact HX.out);have HC2:Hid (s2.C=s.C):=zh (by rw[hs2];exact HC1.out);clear T3' hs2;have cq:=T3.out.cq;rw[<-HNQ.out]at cq;have f42:=T3.out.blk.frozen 42;have hqm:=T3.out.q.cmax;have hqle:=T3.out.q.le;rw[<-HNQ.out]at hqle;unfold maxLen at hqm;have q2:(1:Int)<=(lqn:Int):=by omega
  have q3:(lqn:Int)<=(qc:Int):=by omega
  have q4:(qc:Int)<=9223372036854775807:=by omega
  obtain⟨QA,hQA⟩:∃QA:Option Addr,QA=if qc=1 then some ⟨b2,o2,none⟩ else some ⟨b2,o2+2,none⟩:=⟨_,rfl⟩
  have HQAB:=zh (show ∀a,QA=some a->a.block=b2 from fun a ha=>by rw[hQA]at ha;split at ha<;>(cases ha;rfl));have hdl:(lq.drop 1).length=lqn-1:=by rw[List.length_drop,<-HNQ.out]
  have S4:SL w3 96 2 QA (lq.drop 1).length (qc-1) ((lq.drop 1).flatMap WE.cells):=by
   have hh:=T3.out.q.drop 1 (by rw[<-HNQ.out];exact hnq1);rw[p4,Nat.one_mul,<-hQA,<-HNQ.out,<-hdl]at hh
   exact hh
  obtain⟨W4,hW4⟩:∃W4:Nat->Prop,W4=fun k=>W1 k\/∃a,QA=some a/\k=a.block:=⟨_,rfl⟩
  have HW4:=zh (show ∀k,W4 k->W1 k from fun k hk=>by
   rw[hW4]at hk;rcases hk with hk | ⟨a,ha,e⟩
   ·exact hk
   ·rw[e,HQAB.out a ha];exact T3.out.wq _ rfl)
  have T4:=T3.out.setQ (lq':=lq.drop 1) (qA':=QA) (qc':=qc-1) (w1:=w3) aa.refl (fun a ha=>.inl ⟨_,rfl,HQAB.out a ha⟩) S4 (fun e he=>T3.out.qe e (List.mem_of_mem_drop he));rw[hdl,HEQ.out.2,<-hW4]at T4;have kg:aa W1 w3 (w3.setCell ⟨g,42,none⟩ (.slice QA (lqn-1) (qc-1))):=aa.refl.setCell (p:=⟨g,42,none⟩) T3.out.wg _;have PK3:=zh (T3.out.qe e0 (List.mem_of_getElem? HE0.out));rw[<-HPA.out,<-HPN.out,<-HPZ.out,<-HPC.out]at PK3;go_upto_region 23 with (fail)
  rw[<-hQA];refine ag (fun X=>bN X g { s2 with Q:=r } W4 R1 QA (qc-1) (lq.drop 1) pA pc lp ub cb/\aa W1 w3 X) ⟨T4,kg⟩ ?_;rintro X4 ⟨x1,x2⟩;have TX4:=zh x1;have KX4:=zh x2;clear x1 x2 T4 kg S4 hQA hW4 hdl cq f42 hqm q3 q4;have c41:=TX4.out.cnext;rw[show({ s2 with Q:=r }:TS).next=s2.next from rfl,<-HX2.out]at c41;have f41:=TX4.out.blk.frozen 41;have T5:=TX4.out.setNext ((N:Int)+1) (by omega);have kg:aa W1 w3 (X4.setCell ⟨g,41,none⟩ (.int .u64 ((N:Int)+1))):=KX4.out.setCell (p:=⟨g,41,none⟩) T3.out.wg _;go_upto_region 24 with (fail)
  refine ag (fun X=>bN X g { s2 with Q:=r,next:=(N:Int)+1 } W4 R1 QA (qc-1) (lq.drop 1) pA pc lp ub cb/\aa W1 w3 X) ⟨T5,kg⟩ ?_;rintro X5 ⟨x1,x2⟩;have TX5:=zh x1;have KX5:=zh x2;clear x1 x2 T5 kg c41 f41;have hs0:w.heap.size<=w1.heap.size:=HK1.out.size;have hs1:w1.heap.size<=w2.heap.size:=E2.out.size;have hs2:w2.heap.size<=V2.heap.size:=BU.out.size;have hs3:V2.heap.size<=w3.heap.size:=HB3.out.size;have HFA:=zh (show ∀a,A3=some a->V2.heap.size<=a.block/\a.block < w3.heap.size/\∃cur t,w3.heap[a.block]? = some (.cells cur t (0,0))from fun a e=>⟨(HF3.out a e).1,db HR3.out (by unfold cy;omega) e,(HF3.out a e).2⟩);have HKB:=zh (show aa W w w3 from (HK1.out.trans ((aa.of_below (F:=W1) (E2.out.trans (BU.out.mono hs1))).trans (HB3.out.mono (G:=W1) (fun k e=>by subst e;exact TU.out.wc)) (fun _ _ h=>h)) (fun k hk h=>by
    rcases HW1.out k h with h | h
    ·exact h
    ·omega)))
  have HWW:=zh (show ∀k,k < w.heap.size->W1 k->W k from fun k hk h=>by
   rcases HW1.out k h with h | h
   ·exact h
   ·omega)
  have hN:cy s.C (F.n s.C s.comp q.n q.z)=cy s.C (F.n s.C s.comp pn pz):=by rw[HPN.out,HPZ.out,HEQ.out.1]
  have hO:F.o s.C s.comp q.n q.z=F.o s.C s.comp pn pz:=by rw[HPN.out,HPZ.out,HEQ.out.1]
  have HOQ:=zh hO;have hZ:gL s.C s.next.toNat (F.n s.C s.comp q.n q.z) (nf (F.z s.C s.comp q.n q.z))=gL s.C N (F.n s.C s.comp pn pz) (nf (F.z s.C s.comp pn pz)):=by rw[HPN.out,HPZ.out,HEQ.out.1,<-HN1.out,<-HX.out,Int.toNat_natCast]
  have hNX:s.next=(N:Int):=by rw[<-HN1.out,HX.out]
  have HNN2:=zh hN;have HZZ:=zh hZ;have HNXX:=zh hNX;clear hN hZ hNX hO;have c36:X5.cell? ⟨g,36,none⟩=some (.bool s.C.ac):=(TX5.out.cC (j:=36) (by decide)).trans (by rw[show({ s2 with Q:=r,next:=(N:Int)+1 }:TS).C=s2.C from rfl,HC2.out];rfl);by_cases hac:s.C.ac=true
  ·rw[hac]at c36;have HAC:=zh hac;clear hac;have cp5:=TX5.out.cp;rw[<-HM.out]at cp5;obtain⟨ip,hip,hipz,hips,hipb⟩:=m8;obtain⟨X6,hX6⟩:=af (X5.alloc (.cells #[.int .u32 (N:Int),.slice PA pn pcc,.bool false] 94))
   have hb6:Below X5.heap.size X5 X6:=by rw[hX6];exact bM _
   have HX6:=zh hX6;have TX6:=zh (TX5.out.below hb6);have hNB:ae X6 X5.heap.size 94 #[.int .u32 (N:Int),.slice PA pn pcc,.bool false]:=by rw[hX6];exact ae.new _ _ _
   have HSRC:Hid (Src Tryz.prog 3 89 (.slice (some ⟨X5.heap.size,0,none⟩) 1 1) 1 [.int .u32 (N:Int),.slice PA pn pcc,.bool false] X6):=zh (Src.ofSlice _ Tryz.underlying89 ⟨X5.heap.size,0,none⟩ 1 1 _ rfl (fun j u hu=>by
    have hj:j < 3:=(List.getElem?_eq_some_iff.1 hu).1;rw[Addr.add_lit,Nat.zero_add,hNB.cell j];simpa using hu) (by simp[Value.oneCell']))
   have HSL6:Hid (SL X6 94 3 pA m pc (lp.flatMap PE.cells)):=zh (by rw[HM.out];exact TX6.out.p);have HM6:Hid (m<=1000000):=zh (by rw[HM.out];have hh:=congrArg List.length T1.out.pv;rw[List.length_map,HP1.out]at hh;rw[hh];exact HPL.out);clear hNB hX6;go_wp2_with (rw[<-HX6.out];refine aY rfl _ _ _ _ rfl X6 94 ip (.agg #[.int .u32 0,.slice none 0 0,.bool false]) 3 40 Tryz.underlying89 hip hipz hips hipb rfl pA m pc (lp.flatMap PE.cells) rfl HSL6.out _ rfl 1 [.int .u32 (N:Int),.slice PA pn pcc,.bool false] HSRC.out (by decide) (by have:=HM6.out;unfold maxLen;omega) (by have:=HM6.out;omega) ?_;intro A9 c9 wA hSL9 hK9 hA9;have HSL9:=zh hSL9;have HK9:=zh hK9;have HA9:=zh hA9;have hg9:=(hK9.blk TX6.out.blk (fun⟨a,ha,e⟩=>TX6.out.gp a ha e)).cell 43;have hf9:=(hK9.blk TX6.out.blk (fun⟨a,ha,e⟩=>TX6.out.gp a ha e)).frozen 43;rw[bv s2.C.arr_size 4]at hg9;simp at hg9;clear hSL9 hK9 hA9);go_ret3;obtain⟨pe,hpe⟩:∃pe:PE,pe=⟨⟨(N:Int),pn,pz,false⟩,PA,pcc⟩:=⟨_,rfl⟩
   have hlen9:(lp++[pe]).length=m+1:=by rw[List.length_append,<-HM.out];rfl
   have hW1X:∀k,W1 k->k < w3.heap.size:=T3.out.win;have hX5:w3.heap.size<=X5.heap.size:=KX5.out.size;have hX6s:X5.heap.size<=X6.heap.size:=hb6.size;have hS9:SL wA 94 3 A9 (lp++[pe]).length c9 ((lp++[pe]).flatMap PE.cells):=by
    rw[hlen9,List.flatMap_append,hpe]
    exact HSL9.out
   have hpk:∀e,e∈lp++[pe]->ci wA R1 e.A e.v.n e.c e.v.z:=fun e he=>by
    have hx:ci X6 R1 e.A e.v.n e.c e.v.z:=by
     rcases List.mem_append.1 he with he | he
     ·exact TX6.out.pe e he
     ·have:e=pe:=by simpa using he
      rw[this,hpe]
      exact(PK3.out.keep KX5.out (fun k hw hr=>T3.out.dis k hw hr)).keep (aa.of_below (F:=fun _=>False) hb6) (fun k hf=>hf.elim)
    exact hx.keep HK9.out (fun j ⟨a,ha,e2⟩ hr=>TX6.out.dis j (by rw[e2];exact TX6.out.wp a ha) hr)
   have TF:=TX6.out.setP (lp':=lp++[pe]) HK9.out HA9.out hS9 hpk (fun e he=>by
    rcases List.mem_append.1 he with he | he
    ·exact TX6.out.pr e.v (by rw[<-TX6.out.pv];exact List.mem_map_of_mem he)
    ·have:e=pe:=by simpa using he
     rw[this,hpe]
     exact⟨Int.natCast_nonneg _,by show(N:Int) < 4294967296;omega⟩)
   rw[hlen9]at TF;have hK:aa W1 w3 (wA.setCell ⟨g,43,none⟩ (.slice A9 (m+1) c9)):=((KX5.out.more hb6).trans (HK9.out.mono (G:=fun k=>W1 k\/X6.heap.size<=k) (fun k ⟨a,ha,e⟩=>.inl (by rw[e];exact T3.out.wp a ha))) (fun k hk h=>by
    rcases h with h | h
    ·exact h
    ·omega)).setCell (p:=⟨g,43,none⟩) T3.out.wg _
   have hW9:∀k,(W4 k\/∃a,A9=some a/\k=a.block)->W1 k\/X6.heap.size<=k:=fun k hk=>by
    rcases hk with hk | ⟨a,ha,e⟩
    ·exact .inl (HW4.out k hk)
    ·rcases HA9.out a ha with ⟨a',ha',e'⟩ | hge
     ·exact .inl (by rw[e,e'];exact T3.out.wp a' ha')
     ·exact .inr (by omega)
   refine⟨A3,c3,(fun k=>W4 k\/∃a,A9=some a/\k=a.block),R1,?_,?_,?_,?_,fun k hk=>?_,HR1.out,?_,?_⟩
   ·show _=Ending.returned (.tuple #[.slice A3 (cy s.C (F.n s.C s.comp q.n q.z)) c3,.int .u32 s.next,.int .i64 0]);rw[HNN2.out,HNXX.out]
    rfl
   ·show cy s.C (F.n s.C s.comp q.n q.z)<=c3;rw[HNN2.out]
    exact HC3.out
   ·show au _ _ A3 (cy s.C (F.n s.C s.comp q.n q.z)) (fun j=>.int .u8 ((gL s.C s.next.toNat (F.n s.C s.comp q.n q.z) (nf (F.z s.C s.comp q.n q.z)) j:Nat):Int));rw[HNN2.out,HZZ.out]
    exact(hK.row HR3.out ao (fun a e _ h=>by have:=(HFA.out a e).1;have:=TU.out.win _ h;omega)).more hK.size
   ·first
     | (show dK _ g ({ s.tick t with Q:=r,next:=s.next+1,P:=if s.C.ac=true then s.P++[⟨s.next,q.n,q.z,false⟩] else s.P,comp:=F.o s.C s.comp q.n q.z }:TS) _ R1;rw[if_pos HAC.out])
     | show dK _ g ({ s.tick t with Q:=r,next:=s.next+1,P:=s.P++[⟨s.next,q.n,q.z,false⟩],comp:=F.o s.C s.comp q.n q.z }:TS) _ R1
    have e2:=HS2.out;subst e2;rw[HOQ.out,<-HS1.out,HNXX.out,<-HP1.out,show(⟨(N:Int),q.n,q.z,false⟩:PV)=pe.v from by rw[hpe,HPN.out,HPZ.out,HEQ.out.1],<-T1.out.pv];rw[List.map_append]at TF
    exact⟨_,_,_,_,_,_,_,_,TF⟩
   ·rcases hW9 k hk with h | h
    ·exact HW1.out k h
    ·exact .inr (by omega)
   ·exact HKB.out.trans hK HWW.out
   ·intro a e;have h1:=(HFA.out a e).1;have h2:=(HFA.out a e).2.1;obtain⟨cur,ty,hu⟩:=(HFA.out a e).2.2;refine⟨by omega,fun h=>?_,fun h=>by have:=TU.out.rin _ h;omega,cur,ty,(hK.block _ h2 (fun h=>by have:=TU.out.win _ h;omega)).trans hu⟩;rcases hW9 _ h with h | h
    ·have:=TU.out.win _ h;omega
    ·omega
  ·have hac2:s.C.ac=false:=by simpa using hac
   rw[hac2]at c36;have HAC:=zh hac;clear hac hac2;go_wp2;go_ret3;refine⟨A3,c3,W4,R1,?_,?_,?_,?_,fun k hk=>HW1.out k (HW4.out k hk),HR1.out,?_,?_⟩
   ·show _=Ending.returned (.tuple #[.slice A3 (cy s.C (F.n s.C s.comp q.n q.z)) c3,.int .u32 s.next,.int .i64 0]);rw[HNN2.out,HNXX.out]
    rfl
   ·show cy s.C (F.n s.C s.comp q.n q.z)<=c3;rw[HNN2.out]
    exact HC3.out
   ·show au _ _ A3 (cy s.C (F.n s.C s.comp q.n q.z)) (fun j=>.int .u8 ((gL s.C s.next.toNat (F.n s.C s.comp q.n q.z) (nf (F.z s.C s.comp q.n q.z)) j:Nat):Int));rw[HNN2.out,HZZ.out]
    exact(KX5.out.row HR3.out ao (fun a e _ h=>by have:=(HFA.out a e).1;have:=TU.out.win _ h;omega)).more KX5.out.size
   ·first
     | (show dK _ g ({ s.tick t with Q:=r,next:=s.next+1,P:=if s.C.ac=true then s.P++[⟨s.next,q.n,q.z,false⟩] else s.P,comp:=F.o s.C s.comp q.n q.z }:TS) W4 R1;rw[if_neg HAC.out])
     | show dK _ g ({ s.tick t with Q:=r,next:=s.next+1,P:=s.P,comp:=F.o s.C s.comp q.n q.z }:TS) W4 R1
    have e2:=HS2.out;subst e2;rw[HOQ.out,<-HS1.out,HNXX.out,<-HP1.out]
    exact⟨_,_,_,_,_,_,_,_,TX5.out⟩
   ·exact HKB.out.trans KX5.out HWW.out
   ·intro a e;have:=(HFA.out a e).1;obtain⟨cur,ty,hu⟩:=(HFA.out a e).2.2
    exact⟨by omega,fun h=>by have:=TU.out.win _ (HW4.out _ h);omega,fun h=>by have:=TU.out.rin _ h;omega,cur,ty,(KX5.out.block _ (HFA.out a e).2.1 (fun h=>by have:=TU.out.win _ h;omega)).trans hu⟩
theorem vU (F:KF) (g:Nat) (s:TS) (W R:Nat->Prop) (w:World) (h:dK w g s W R) (hf:s.Fine) (t:Int) (ht1:-9223372036854775808<=t) (ht2:t<=9223372036854775807) (hb:jE F g s.C) (mm:Int) (hmm:mm < 4611686018427387903) (hcp:F.ok s.comp mm) (hpl:s.P.length<=1000000) :
  Calls Tryz.prog 13 #[.pointer (some ⟨g,0,none⟩),.int .i64 t] w (va W R w g (s.sendF F t)):=by
 by_cases ct:1073741824<=t
 ·exact qi F g s W R w h hf t ht1 ht2 ct
 cases hrep:bo s.P with
 | some x=>exact qZ F g s W R w h hf t ht1 ht2 ct hb mm hmm hcp x.1 x.2 hrep
 | none=>
  cases hq:(s.tick t).Q with
  | nil=>exact pN F g s W R w h hf t ht1 ht2 ct hrep hq
  | cons q r=>
   by_cases hnx:s.next=4294967296
   ·exact oI F g s W R w h hf t ht1 ht2 ct hrep q r hq hnx
   ·by_cases hfu:s.full=true
    ·exact oN F g s W R w h hf t ht1 ht2 ct hrep q r hq hnx hfu
    ·exact ri F g s W R w h hf t ht1 ht2 ct hb mm hmm hcp hpl hrep q r hq hnx hfu
end Go.Proofs.YtiiojpnckbglcaaGreat
