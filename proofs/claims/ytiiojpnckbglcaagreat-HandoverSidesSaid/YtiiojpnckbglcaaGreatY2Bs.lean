import Derived.Test.YtiiojpnckbglcaaGreatMY2As
import Derived.Test.YtiiojpnckbglcaaGreatMYHs
import Derived.Test.YtiiojpnckbglcaaGreatMYAs
set_option linter.unusedVariables false
namespace Go.Proofs.YtiiojpnckbglcaaGreat
open Go.RowKit
attribute [local go_sem ↓] Go.wp_at_zero Go.wp_at_succ
private theorem aJ {P:Program} {ops:Array Oper} {Q:Exit->Act->World->Prop} {md:Region.Mode} {S:World->Prop} {i:Nat} {oi:Oper} {v:Value} {fuel:Nat} {listed l':Array Bool} {a a':Act} {w:World} (hi:ops[i]? = some oi) (hy:YieldsIf P ops S oi v a) (hS:S w)
  (h:wpAnyH P md ops Q S fuel l' a' w) (hl:listed.setIfInBounds i true=l':=by(try simp only[List.setIfInBounds_toArray,List.set_cons_zero,List.set_cons_succ]);rfl) (ha:a.put oi.dst v=a':=by(try simp only[Act.put,List.setIfInBounds_toArray,List.set_cons_zero,List.set_cons_succ]);rfl) (hs:Region.noSelect ops=true:=by kernel_rfl) (hf:Region.free md ops listed i=true:=by kernel_rfl) (hr:(Region.ready md ops listed).contains i=true:=by kernel_rfl)
  (hQ:∀c a w,Q (.panic c) (a.put oi.dst v) w->Q (.panic c) a w:=by exact fun _ _ _ h=>h):wpAnyH P md ops Q S (fuel+1) listed a w:=by subst hl;subst ha;exact wpAnyH_take hi hs hf hr hQ hy hS h
theorem iz (cb:Nat) (o:Obj) (m:Int) (hm:m < 4611686018427387903) (hc:gB o m) (A:Option Addr) (n c:Nat) (z:Nat->Int) (w:World) (ho:w.heap[cb]? = some o) (h1:1<=n) (h9:n<=9000) (hnc:n<=c) (hr:au w w.heap.size A n (fun j=>.int .u8 (z j))) (hz:∀j,j < n->0<=z j/\z j < 256) (hA:∀a,A=some a->a.block ≠ cb) :
  Calls Tryz.prog 83 #[.pointer (some ⟨cb,0,none⟩),.slice A n c] w fun e w'=>∃A1 c1,e=.returned (.tuple #[.slice A1 (eJ (ev o).1 (ev o).2 n z) c1,.int .i64 0])/\eJ (ev o).1 (ev o).2 n z<=c1/\au w' w'.heap.size A1 (eJ (ev o).1 (ev o).2 n z) (fun j=>.int .u8 (vV (ev o).1 (ev o).2 n z j))/\aa (fun k=>k=cb) w w'/\w'.heap[cb]? = some (eM (ya (ev o).1 (ev o).2 n z) (yb (ev o).2 n z)):=by
 obtain⟨e1,e2,e3,e4⟩:=uo hc
 have hB:CB w cb true (ev o).1 (ev o).2:=by
  unfold CB
  show w.heap[cb]? = some (eM (ev o).1 (ev o).2)
  rw[<-e1]
  exact ho
 have e:bK n=0:=by unfold bK;rw[if_neg (by omega),if_neg (by omega)]
 refine(mK cb (ev o).1 (ev o).2 A n c z w hB e2 ⟨e3,by omega⟩ hnc hz hr hA).mono ?_
 rintro x w' ⟨A1,c1,hx,g1,g2,g3,g4,g5⟩
 rw[e]at hx
 exact⟨A1,c1,hx,g1,g3,aa.of_row g5 rfl,g4⟩
theorem fY.after {cf:aZ} {cb ct n n1:Nat} {o:Obj} {z z1:Nat->Int} {w w1:World} {e:Ending} {w':World} (hn:kN cf o n z=n1) (hz:kZ cf o n z=z1) (hk:aa (fun k=>k=cb) w w1) (ho:w1.heap[cb]? = some (kO cf o n z)) (h:fY cf ct n1 z1 w1 e w'):iN cf cb o ct n z w e w':=by
 obtain⟨A,c,h1,h2,h3,h4,h5⟩:=h
 have hn':iq.n cf o n z=n1:=hn
 have hz':iq.z cf o n z=z1:=hz
 unfold iN mn
 rw[hn',hz']
 exact⟨A,c,h1,h2,fun a ea=>⟨ba hk.size (h3 a ea).1,(h3 a ea).2⟩,h4,hk.more h5,(h5.block cb (Array.getElem?_eq_some_iff.1 ho).1).trans ho⟩
set_option maxRecDepth 100000 in
set_option maxHeartbeats 1600000 in
theorem ld (g:Nat) (s:TS) (W R:Nat->Prop) (w:World) (o:Obj) (hso:s.comp=o) (qA:Option Addr) (qc:Nat) (lq:List WE) (pA:Option Addr) (pc:Nat) (lp:List PE) (ub cb:Nat) (h:bN w g s W R qA qc lq pA pc lp ub cb) (m:Int) (hmm:m < 4611686018427387903) (hcp:gB o m) (hok:s.C.Ok) (hv:s.C.Valid) (hig:s.C.ig=false) (hcm:s.C.cm=true) (ct:Nat) (hct:ct < 4294967296) (A:Option Addr) (n c:Nat) (z:Nat->Int) (hp1:1<=n) (hp9:n<=9000) (hcap:n<=c) (hr:au w w.heap.size A n (fun j=>.int .u8 (z j))) (hz:∀j,j < n->0<=z j/\z j < 256) (hA:∀a,A=some a->a.block ≠ cb) :
  Calls Tryz.prog 46 #[.pointer (some ⟨g,0,none⟩),.int .u32 ct,.slice A n c] w (iN s.C cb o ct n z w):=by
 have hT:=h
 have HT:=zh hT
 have HCM:=zh (iz cb o m hmm hcp A n c z w (by rw[<-hso];exact h.k) hp1 hp9 hcap hr hz hA)
 have HN1:Hid (∃n1,kN s.C o n z=n1/\eJ (ev o).1 (ev o).2 n z=n1/\1<=n1/\n1<=9001):=zh ⟨kN s.C o n z,rfl,by unfold kN;rw[if_pos hcm],(qq s.C o n z hp1 hp9).1,by have:=(qq s.C o n z hp1 hp9).2;omega⟩
 have HZ1:Hid (∃z1,kZ s.C o n z=z1/\vV (ev o).1 (ev o).2 n z=z1/\∀j,j < kN s.C o n z->0<=z1 j/\z1 j < 256):=zh ⟨kZ s.C o n z,rfl,by unfold kZ;rw[if_pos hcm],qO hcp hp1 hp9 hz⟩
 have HO1:Hid (kO s.C o n z=eM (ya (ev o).1 (ev o).2 n z) (yb (ev o).2 n z)):=zh (by unfold kO;rw[if_pos hcm])
 have c45:=hT.cc
 have c35:w.cell? ⟨g,35,none⟩=some (.bool true):=(hT.cC (j:=35) (by decide)).trans (by rw[show s.C.cell 35=.bool s.C.cm from rfl,hcm])
 have c0:(0:Int)<=(ct:Int):=by omega
 have c1:(ct:Int) < 4294967296:=by omega
 have HIG:=zh hig
 have HKL:=zh hok.keyN
 obtain⟨B,hB⟩:∃B:Nat,B=s.C.b.toNat:=⟨_,rfl⟩
 obtain⟨D,hD⟩:∃D:Nat,D=s.C.d.toNat:=⟨_,rfl⟩
 have HB:=zh hB
 have HD:=zh hD
 have HBI:Hid (s.C.b=(B:Int)):=zh (by rw[hB];have:=hv.1;omega)
 have HDI:Hid (s.C.d=(D:Int)):=zh (by rw[hD];have:=hv.2.2.1;omega)
 have HBL:Hid (B < 32):=zh (by rw[hB];have:=hv.2.1;omega)
 have HDL:Hid (D < 2):=zh (by rw[hD];have:=hv.2.2.1;omega)
 have HCT:=zh hct
 clear hT hr hz hig hB hD hv hct hp1 hp9 hcm hcap hmm hcp hA hso h
 go_enter Tryz.func46,Tryz.ntmps46
 go_upto_region 7 with (go_at_call 83;refine(HCM.out).mono ?_;rintro e wK ⟨AK,cK,rfl,g1,g2,g3,g4⟩;have HRK:=zh g2;have HKC:=zh g3;have HOK:=zh g4;clear g1 g2 g3 g4)
 obtain⟨nK,hn1,hn2,hn3,hn4⟩:=HN1.out
 clear HN1
 obtain⟨zK,hz1,hz2,hz3⟩:=HZ1.out
 clear HZ1
 rw[hn1]at hz3
 have HN1:=zh hn1
 have HZ1:=zh hz1
 have HP:Hid (1<=nK/\nK<=9001):=zh ⟨hn3,hn4⟩
 have HZ:=zh hz3
 rw[hn2,hz2]at HRK
 rw[hn2]
 have HR:=HRK
 have HOC:Hid (wK.heap[cb]? = some (kO s.C o n z)):=zh (by rw[HO1.out];exact HOK.out)
 have HT1:=zh (HT.out.setCb HKC.out HOC.out)
 clear HT HCM HO1 HOK hn1 hn2 hn3 hn4 hz1 hz2 hz3 HRK c45 c35
 have HT:=HT1
 clear HT1
 go_upto_region 8 with (fail)
 obtain⟨hb,hhb⟩:=af wK.heap.size
 have HHB:=zh hhb
 refine ag (fun V=>ae V hb 5 #[.int .u8 (128+(ct:Int) / 256 % 16),.int .u8 ((ct:Int) % 256)]/\Below wK.heap.size wK V) ⟨by rw[hhb];exact ae.new _ _ _,(Below.refl _ wK).alloc ao _⟩ ?_
 rintro V ⟨b1,b2⟩
 have B1:=zh b1
 have B2:=zh b2
 have HCL:=zh (bw AK nK cK zK V (by have:=HP.out;omega) (HR.out.next b2))
 rw[<-hhb]
 clear b1 b2 hhb
 go_upto_region 9 with (go_at_call 39;refine(HCL.out).mono ?_;rintro e V2 ⟨A2,c2,rfl,hc2,hR2,hF2,hbk⟩;have HR2:=zh hR2;have HF2:=zh hF2;have HBK:=zh hbk;clear hc2 hR2 hF2 hbk)
 have T2:=zh (HT.out.below (B2.out.trans (HBK.out.mono B2.out.size)))
 have c34:V2.cell? ⟨g,34,none⟩=some (.bool false):=(T2.out.cC (j:=34) (by decide)).trans (by rw[show s.C.cell 34=.bool s.C.ig from rfl,HIG.out])
 go_upto_region 14 with (fail)
 have HBW:=zh (B2.out.trans (HBK.out.mono B2.out.size))
 have HBH:=zh (B1.out.below HBK.out B1.out.lt)
 obtain⟨w0,hw0⟩:=af V2.drew
 have hb0:Below V2.heap.size V2 w0:=by rw[hw0];exact(Below.refl _ _).drew
 have HKR:=zh (show ∀W',Below V2.heap.size V2 W'->W'.rangeAt g 2 (ar (nf s.C.key)).toList from fun W' hW j v hv=>by
  have hj:j < 16:=by have:=(List.getElem?_eq_some_iff.1 hv).1;rw[Array.length_toList,ah]at this;exact this
  rw[(T2.out.below hW).cC (j:=2+j) (by omega),<-hv,Array.getElem?_toList,aR _ hj]
  unfold aZ.cell
  rw[if_neg (by omega),if_neg (by omega),if_pos (by omega),show 2+j-2=j by omega,cv hok.key hj])
 have HC0:=zh (show ∀W',Below V2.heap.size V2 W'->W'.cell? ⟨g,0,none⟩=some (.int .i64 (B:Int))from fun W' hW=>((T2.out.below hW).cC (j:=0) (by decide)).trans (by rw[show s.C.cell 0=.int .i64 s.C.b from rfl,HBI.out]))
 have HC1:=zh (show ∀W',Below V2.heap.size V2 W'->W'.cell? ⟨g,1,none⟩=some (.int .i64 (D:Int))from fun W' hW=>((T2.out.below hW).cC (j:=1) (by decide)).trans (by rw[show s.C.cell 1=.int .i64 s.C.d from rfl,HDI.out]))
 have HS16:Hid ((Tryz.prog.info? 23).map (·.size)=some (ar (nf s.C.key)).toList.length):=zh (by rw[Array.length_toList,ah];kernel_rfl)
 have HUK:=zh Tryz.underlying23
 have HCR:=zh (ir (nf s.C.key) ct B D HKL.out HCT.out HBL.out HDL.out A2 nK c2 (nf zK) HP.out.1 (by have:=HP.out;omega) (fun j hj=>fK HZ.out hj) w0 (au.congr (HR2.out.next hb0) (fun j hj=>by rw[cv HZ.out hj])))
 obtain⟨KB,hKB⟩:∃q,q=ar (nf s.C.key):=⟨_,rfl⟩
 rw[<-hKB]at HKR HS16 HCR
 clear hKB
 refine wp_region_held_drew (S:=fun w'=>Below V2.heap.size V2 w') (by kernel_rfl) ((Below.refl _ V2).drew) (fun hHeld=>?_)
 rw[<-hw0]
 rw[<-hw0]at hHeld
 clear hw0 c34
 refine(aJ (i:=0) (oi:=⟨some 93,_,_,_,_,_⟩) (v:=.pointer (some ⟨g,0,none⟩)) rfl (Or.inl ⟨by rfl,fun W hW=>(by rfl)⟩) (by assumption) ?_)
 try simp only[Act.put,List.setIfInBounds_toArray,List.set_cons_succ,List.set_cons_zero]
 refine(aJ (i:=1) (oi:=⟨some 94,_,_,_,_,_⟩) (v:=.pointer (some ⟨g,0,none⟩)) rfl (Or.inl ⟨by rfl,fun W hW=>(by go_simp)⟩) (by assumption) ?_)
 try simp only[Act.put,List.setIfInBounds_toArray,List.set_cons_succ,List.set_cons_zero]
 refine(aJ (i:=2) (oi:=⟨some 95,_,_,_,_,_⟩) (v:=.pointer (some ⟨g,0,none⟩)) rfl (Or.inl ⟨by rfl,fun W hW=>(by go_simp)⟩) (by assumption) ?_)
 try simp only[Act.put,List.setIfInBounds_toArray,List.set_cons_succ,List.set_cons_zero]
 refine(aJ (i:=3) (oi:=⟨some 96,_,_,_,_,_⟩) (v:=.pointer (some ⟨g,2,none⟩)) rfl (Or.inl ⟨by rfl,fun W hW=>(by go_simp)⟩) (by assumption) ?_)
 try simp only[Act.put,List.setIfInBounds_toArray,List.set_cons_succ,List.set_cons_zero]
 refine'(aJ (i:=4) (oi:=⟨some 97,_,_,_,_,_⟩) (v:=_) rfl (yieldsIf_load_mid (by rfl) _ _ rfl g 2 rfl KB.toList _ (fun wK h=>HKR.out wK h) HUK.out rfl HS16.out) (by assumption) ?_)
 try simp only[Act.put,List.setIfInBounds_toArray,List.set_cons_succ,List.set_cons_zero]
 refine(aJ (i:=5) (oi:=⟨some 98,_,_,_,_,_⟩) (v:=.int .u32 ct) rfl (Or.inl ⟨by rfl,fun W hW=>(by rfl)⟩) (by assumption) ?_)
 try simp only[Act.put,List.setIfInBounds_toArray,List.set_cons_succ,List.set_cons_zero]
 refine(aJ (i:=6) (oi:=⟨some 99,_,_,_,_,_⟩) (v:=.pointer (some ⟨g,0,none⟩)) rfl (Or.inl ⟨by rfl,fun W hW=>(by rfl)⟩) (by assumption) ?_)
 try simp only[Act.put,List.setIfInBounds_toArray,List.set_cons_succ,List.set_cons_zero]
 refine(aJ (i:=7) (oi:=⟨some 100,_,_,_,_,_⟩) (v:=.pointer (some ⟨g,0,none⟩)) rfl (Or.inl ⟨by rfl,fun W hW=>(by go_simp)⟩) (by assumption) ?_)
 try simp only[Act.put,List.setIfInBounds_toArray,List.set_cons_succ,List.set_cons_zero]
 refine(aJ (i:=8) (oi:=⟨some 101,_,_,_,_,_⟩) (v:=.pointer (some ⟨g,0,none⟩)) rfl (Or.inl ⟨by rfl,fun W hW=>(by go_simp)⟩) (by assumption) ?_)
 try simp only[Act.put,List.setIfInBounds_toArray,List.set_cons_succ,List.set_cons_zero]
 refine(aJ (i:=9) (oi:=⟨some 102,_,_,_,_,_⟩) (v:=.pointer (some ⟨g,0,none⟩)) rfl (Or.inl ⟨by rfl,fun W hW=>(by go_simp)⟩) (by assumption) ?_)
 try simp only[Act.put,List.setIfInBounds_toArray,List.set_cons_succ,List.set_cons_zero]
 refine(aJ (i:=10) (oi:=⟨some 103,_,_,_,_,_⟩) (v:=.int .i64 (B:Int)) rfl (Or.inl ⟨by rfl,fun W hW=>(by have:=HC0.out W hW;go_simp)⟩) (by assumption) ?_)
 try simp only[Act.put,List.setIfInBounds_toArray,List.set_cons_succ,List.set_cons_zero]
 refine(aJ (i:=11) (oi:=⟨some 104,_,_,_,_,_⟩) (v:=.pointer (some ⟨g,0,none⟩)) rfl (Or.inl ⟨by rfl,fun W hW=>(by rfl)⟩) (by assumption) ?_)
 try simp only[Act.put,List.setIfInBounds_toArray,List.set_cons_succ,List.set_cons_zero]
 refine(aJ (i:=12) (oi:=⟨some 105,_,_,_,_,_⟩) (v:=.pointer (some ⟨g,0,none⟩)) rfl (Or.inl ⟨by rfl,fun W hW=>(by go_simp)⟩) (by assumption) ?_)
 try simp only[Act.put,List.setIfInBounds_toArray,List.set_cons_succ,List.set_cons_zero]
 refine(aJ (i:=13) (oi:=⟨some 106,_,_,_,_,_⟩) (v:=.pointer (some ⟨g,0,none⟩)) rfl (Or.inl ⟨by rfl,fun W hW=>(by go_simp)⟩) (by assumption) ?_)
 try simp only[Act.put,List.setIfInBounds_toArray,List.set_cons_succ,List.set_cons_zero]
 refine(aJ (i:=14) (oi:=⟨some 107,_,_,_,_,_⟩) (v:=.pointer (some ⟨g,1,none⟩)) rfl (Or.inl ⟨by rfl,fun W hW=>(by go_simp)⟩) (by assumption) ?_)
 try simp only[Act.put,List.setIfInBounds_toArray,List.set_cons_succ,List.set_cons_zero]
 refine(aJ (i:=15) (oi:=⟨some 108,_,_,_,_,_⟩) (v:=.int .i64 (D:Int)) rfl (Or.inl ⟨by rfl,fun W hW=>(by have:=HC1.out W hW;go_simp)⟩) (by assumption) ?_)
 try simp only[Act.put,List.setIfInBounds_toArray,List.set_cons_succ,List.set_cons_zero]
 refine(aJ (i:=16) (oi:=⟨some 109,_,_,_,_,_⟩) (v:=.slice A2 nK c2) rfl (Or.inl ⟨by rfl,fun W hW=>(by rfl)⟩) (by assumption) ?_)
 try simp only[Act.put,List.setIfInBounds_toArray,List.set_cons_succ,List.set_cons_zero]
 refine wpAnyH_ready (rs:=[17]) (by kernel_rfl) (by simp) ?_
 refine AllReadyH.cons (o:=⟨some 110,_,_,_,_,_⟩) rfl (fun K hK=>?_) AllReadyH.nil
 rw[if_pos (by rfl)]
 go_simp
 refine(HCR.out).mono ?_
 rintro e w3 ⟨A3,c3,rfl,hc3,hF3,hR3,hB3⟩
 dsimp only
 have HR3:=zh hR3
 have HB3:=zh hB3
 have H3:Below V2.heap.size V2 w3:=hHeld.trans (hB3.mono hb0.size)
 refine hK.out _ _ H3 (fun hHeld=>?_)
 clear hK K hR3 hF3 hc3 hB3
 try simp only[Act.put,List.setIfInBounds_toArray,List.set_cons_succ,List.set_cons_zero]
 refine(aJ (i:=18) (oi:=⟨some 92,_,_,_,_,_⟩) (v:=.tuple #[.slice A3 nK c3,.int .i64 0]) rfl (Or.inl ⟨by rfl,fun W hW=>(by rfl)⟩) (by assumption) ?_)
 try simp only[Act.put,List.setIfInBounds_toArray,List.set_cons_succ,List.set_cons_zero]
 refine(aJ (i:=19) (oi:=⟨some 111,_,_,_,_,_⟩) (v:=.slice A3 nK c3) rfl (Or.inl ⟨by rfl,fun W hW=>(by go_simp)⟩) (by assumption) ?_)
 try simp only[Act.put,List.setIfInBounds_toArray,List.set_cons_succ,List.set_cons_zero]
 refine(aJ (i:=21) (oi:=⟨some 15,_,_,_,_,_⟩) (v:=.slice A3 nK c3) rfl (Or.inl ⟨by rfl,fun W hW=>(by rfl)⟩) (by assumption) ?_)
 try simp only[Act.put,List.setIfInBounds_toArray,List.set_cons_succ,List.set_cons_zero]
 refine(aJ (i:=20) (oi:=⟨some 112,_,_,_,_,_⟩) (v:=.int .i64 0) rfl (Or.inl ⟨by rfl,fun W hW=>(by go_simp)⟩) (by assumption) ?_)
 try simp only[Act.put,List.setIfInBounds_toArray,List.set_cons_succ,List.set_cons_zero]
 refine(aJ (i:=22) (oi:=⟨some 16,_,_,_,_,_⟩) (v:=.int .i64 0) rfl (Or.inl ⟨by rfl,fun W hW=>(by rfl)⟩) (by assumption) ?_)
 try simp only[Act.put,List.setIfInBounds_toArray,List.set_cons_succ,List.set_cons_zero]
 refine wpAnyH_done (by kernel_rfl) ?_ _
 have HH3:=zh H3
 clear H3 hHeld
 go_upto_region 17 with (fail)
 have HB3:=zh (HBH.out.below HH3.out HBH.out.lt)
 have HSH:=zh (show SL w3 5 1 (some ⟨hb,0,none⟩) 2 2 [.int .u8 (128+(ct:Int) / 256 % 16),.int .u8 ((ct:Int) % 256)]from ⟨rfl,.inr ⟨hb,0,_,rfl,HB3.out,Nat.le_refl _,by unfold maxLen;omega,by simp,fun j hj=>by rw[Nat.zero_add];simp⟩⟩)
 obtain⟨lb,lo,hA3,hlb,hlc⟩:=HR3.out HP.out.1
 subst hA3
 have HLC:=zh hlc
 obtain⟨CF,hCF⟩:=af (jK (nf s.C.key) ct B D (nf zK))
 have HCF:=zh hCF
 rw[<-hCF]at HLC
 obtain⟨i0,hi,hz0,hz1,hz2⟩:=info_parts Tryz.infoByte
 have HSRC:Hid (Src Tryz.prog 1 44 (.slice (some ⟨lb,lo,none⟩) nK c3) nK ((List.range nK).map fun j=>.int .u8 ((CF j:Nat):Int)) w3):=zh (Src.ofSlice _ Tryz.underlying44 ⟨lb,lo,none⟩ nK c3 _ (by simp) (fun j u hu=>by
   have hj:j < nK:=by have:=(List.getElem?_eq_some_iff.1 hu).1;simpa using this
   rw[Addr.add_lit,HLC.out j hj,<-hu]
   simp[hj]) (fun u hu=>by
    obtain⟨j,_,rfl⟩:=List.mem_map.1 hu
    rfl))
 clear hlc hCF
 go_wp2_with (refine aY rfl _ _ _ _ rfl w3 5 i0 (.int .u8 0) 1 1 Tryz.underlying44 hi hz0 hz1 hz2 rfl (some ⟨hb,0,none⟩) 2 2 _ rfl HSH.out _ rfl nK ((List.range nK).map fun j=>.int .u8 ((CF j:Nat):Int)) HSRC.out HP.out.1 (by have:=HP.out;unfold maxLen;omega) (by have:=HP.out;omega) ?_;intro A9 c9 wA hSL9 hK9 hA9;have HSL9:=zh hSL9;have HK9:=zh hK9;have HA9:=zh hA9;clear hSL9 hK9 hA9)
 go_ret2
 refine fY.after HN1.out HZ1.out HKC.out HOC.out ?_
 have hw3:wK.heap.size<=w3.heap.size:=ba HBW.out.size HH3.out.size
 have hpn:cy s.C nK=2+nK:=by unfold cy kr;rw[HIG.out];rfl
 refine⟨A9,c9,by rw[hpn];rfl,by rw[hpn];exact HSL9.out.le,fun a e=>⟨?_,by obtain⟨cur,h⟩:=HSL9.out.obj e;exact⟨cur,_,h⟩⟩,?_,aa.below (HBW.out.trans (HH3.out.mono HBW.out.size)) HK9.out (fun k ⟨a,ha,e⟩=>by cases ha;rw[e];exact Nat.le_of_eq HHB.out.symm) hw3⟩
 ·rcases HA9.out a e with ⟨a',ha',e'⟩ | hge
  ·cases ha'
   rw[e',HHB.out]
   exact Nat.le_refl _
  ·omega
 ·rw[hpn]
  refine(i5 HSL9.out (fun j hj=>?_)).more ao
  unfold gL cD
  by_cases hj2:j < 2
  ·rw[if_pos hj2,List.getElem?_append_left (by simpa using hj2)]
   rcases (by omega:j=0\/j=1)with rfl | rfl
   ·simp[iS]
   ·simp[iS]
  ·rw[if_neg hj2,List.getElem?_append_right (by simp;omega)]
   have hjn:j-2 < nK:=by omega
   rw[lD HIG.out hjn,<-HB.out,<-HD.out,<-HCF.out]
   simp[hjn]
set_option maxRecDepth 100000 in
set_option maxHeartbeats 1600000 in
theorem p9 (hco:pt) (g:Nat) (s:TS) (W R:Nat->Prop) (w:World) (o:Obj) (hso:s.comp=o) (qA:Option Addr) (qc:Nat) (lq:List WE) (pA:Option Addr) (pc:Nat) (lp:List PE) (ub cb:Nat) (h:bN w g s W R qA qc lq pA pc lp ub cb) (m:Int) (hmm:m < 4611686018427387903) (hcp:gB o m) (hok:s.C.Ok) (hv:s.C.Valid) (hig:s.C.ig=true) (hcm:s.C.cm=true) (ct:Nat) (hct:ct < 4294967296) (A:Option Addr) (n c:Nat) (z:Nat->Int) (hp1:1<=n) (hp9:n<=9000) (hcap:n<=c) (hr:au w w.heap.size A n (fun j=>.int .u8 (z j))) (hz:∀j,j < n->0<=z j/\z j < 256) (hA:∀a,A=some a->a.block ≠ cb) :
  Calls Tryz.prog 46 #[.pointer (some ⟨g,0,none⟩),.int .u32 ct,.slice A n c] w (iN s.C cb o ct n z w):=by
 have hT:=h
 have HT:=zh hT
 have HCM:=zh (iz cb o m hmm hcp A n c z w (by rw[<-hso];exact h.k) hp1 hp9 hcap hr hz hA)
 have HN1:Hid (∃n1,kN s.C o n z=n1/\eJ (ev o).1 (ev o).2 n z=n1/\1<=n1/\n1<=9001):=zh ⟨kN s.C o n z,rfl,by unfold kN;rw[if_pos hcm],(qq s.C o n z hp1 hp9).1,by have:=(qq s.C o n z hp1 hp9).2;omega⟩
 have HZ1:Hid (∃z1,kZ s.C o n z=z1/\vV (ev o).1 (ev o).2 n z=z1/\∀j,j < kN s.C o n z->0<=z1 j/\z1 j < 256):=zh ⟨kZ s.C o n z,rfl,by unfold kZ;rw[if_pos hcm],qO hcp hp1 hp9 hz⟩
 have HO1:Hid (kO s.C o n z=eM (ya (ev o).1 (ev o).2 n z) (yb (ev o).2 n z)):=zh (by unfold kO;rw[if_pos hcm])
 have c45:=hT.cc
 have c35:w.cell? ⟨g,35,none⟩=some (.bool true):=(hT.cC (j:=35) (by decide)).trans (by rw[show s.C.cell 35=.bool s.C.cm from rfl,hcm])
 have c0:(0:Int)<=(ct:Int):=by omega
 have c1:(ct:Int) < 4294967296:=by omega
 have HIG:=zh hig
 have HKL:=zh hok.keyN
 have HCO:=zh hco
 have HCK:Hid (br (nf s.C.code)):=zh (fun j hj=>fK hok.code hj)
 obtain⟨B,hB⟩:∃B:Nat,B=s.C.b.toNat:=⟨_,rfl⟩
 obtain⟨D,hD⟩:∃D:Nat,D=s.C.d.toNat:=⟨_,rfl⟩
 have HB:=zh hB
 have HD:=zh hD
 have HBI:Hid (s.C.b=(B:Int)):=zh (by rw[hB];have:=hv.1;omega)
 have HDI:Hid (s.C.d=(D:Int)):=zh (by rw[hD];have:=hv.2.2.1;omega)
 have HBL:Hid (B < 32):=zh (by rw[hB];have:=hv.2.1;omega)
 have HDL:Hid (D < 2):=zh (by rw[hD];have:=hv.2.2.1;omega)
 have HCT:=zh hct
 clear hT hr hz hig hB hD hv hct hp1 hp9 hcm hcap hmm hcp hA hso h
 go_enter Tryz.func46,Tryz.ntmps46
 go_upto_region 7 with (go_at_call 83;refine(HCM.out).mono ?_;rintro e wK ⟨AK,cK,rfl,g1,g2,g3,g4⟩;have HRK:=zh g2;have HKC:=zh g3;have HOK:=zh g4;clear g1 g2 g3 g4)
 obtain⟨nK,hn1,hn2,hn3,hn4⟩:=HN1.out
 clear HN1
 obtain⟨zK,hz1,hz2,hz3⟩:=HZ1.out
 clear HZ1
 rw[hn1]at hz3
 have HN1:=zh hn1
 have HZ1:=zh hz1
 have HP:Hid (1<=nK/\nK<=9001):=zh ⟨hn3,hn4⟩
 have HZ:=zh hz3
 rw[hn2,hz2]at HRK
 rw[hn2]
 have HR:=HRK
 have HOC:Hid (wK.heap[cb]? = some (kO s.C o n z)):=zh (by rw[HO1.out];exact HOK.out)
 have HT1:=zh (HT.out.setCb HKC.out HOC.out)
 clear HT HCM HO1 HOK hn1 hn2 hn3 hn4 hz1 hz2 hz3 HRK c45 c35
 have HT:=HT1
 clear HT1
 go_upto_region 8 with (fail)
 obtain⟨hb,hhb⟩:=af wK.heap.size
 have HHB:=zh hhb
 refine ag (fun V=>ae V hb 5 #[.int .u8 (128+(ct:Int) / 256 % 16),.int .u8 ((ct:Int) % 256)]/\Below wK.heap.size wK V) ⟨by rw[hhb];exact ae.new _ _ _,(Below.refl _ wK).alloc ao _⟩ ?_
 rintro V ⟨b1,b2⟩
 have B1:=zh b1
 have B2:=zh b2
 have HCL:=zh (dc AK nK cK zK V (by have:=HP.out;omega) (HR.out.next b2))
 rw[<-hhb]
 clear b1 b2 hhb
 go_upto_region 9 with (go_at_call 39;refine(HCL.out).mono ?_;rintro e V2 ⟨A2,c2,rfl,hc2,hR2,hbk⟩;have HO2:=zh hR2;have HBK:=zh hbk;clear hc2 hR2 hbk)
 have T2:=zh (HT.out.below (B2.out.trans (HBK.out.mono B2.out.size)))
 have c34:V2.cell? ⟨g,34,none⟩=some (.bool true):=(T2.out.cC (j:=34) (by decide)).trans (by rw[show s.C.cell 34=.bool s.C.ig from rfl,HIG.out])
 go_upto_region 10 with (fail)
 have HBW:=zh (B2.out.trans (HBK.out.mono B2.out.size))
 have HBH:=zh (B1.out.below HBK.out B1.out.lt)
 obtain⟨w0,hw0⟩:=af V2.drew
 have hb0:Below V2.heap.size V2 w0:=by rw[hw0];exact(Below.refl _ _).drew
 have HKR:=zh (show ∀W',Below V2.heap.size V2 W'->W'.rangeAt g 18 (ar (nf s.C.code)).toList from fun W' hW j v hv=>by
  have hj:j < 16:=by have:=(List.getElem?_eq_some_iff.1 hv).1;rw[Array.length_toList,ah]at this;exact this
  rw[(T2.out.below hW).cC (j:=18+j) (by omega),<-hv,Array.getElem?_toList,aR _ hj]
  unfold aZ.cell
  rw[if_neg (by omega),if_neg (by omega),if_neg (by omega),if_pos (by omega),show 18+j-18=j by omega,cv hok.code hj])
 have HC0:=zh (show ∀W',Below V2.heap.size V2 W'->W'.cell? ⟨g,0,none⟩=some (.int .i64 (B:Int))from fun W' hW=>((T2.out.below hW).cC (j:=0) (by decide)).trans (by rw[show s.C.cell 0=.int .i64 s.C.b from rfl,HBI.out]))
 have HC1:=zh (show ∀W',Below V2.heap.size V2 W'->W'.cell? ⟨g,1,none⟩=some (.int .i64 (D:Int))from fun W' hW=>((T2.out.below hW).cC (j:=1) (by decide)).trans (by rw[show s.C.cell 1=.int .i64 s.C.d from rfl,HDI.out]))
 have HS16:Hid ((Tryz.prog.info? 23).map (·.size)=some (ar (nf s.C.code)).toList.length):=zh (by rw[Array.length_toList,ah];kernel_rfl)
 have HUK:=zh Tryz.underlying23
 have HDR:=zh (show au V2 V2.heap.size AK nK (fun j=>.int .u8 ((nf zK j:Nat):Int))from au.congr (HR.out.next HBW.out) (fun j hj=>by rw[cv HZ.out hj]))
 have HHR:=zh (show au V2 V2.heap.size (some ⟨hb,0,none⟩) 2 (fun j=>.int .u8 ((iS ct j:Nat):Int))from fun _=>⟨hb,0,rfl,HBH.out.lt,fun j hj=>by
  rcases (by omega:j=0\/j=1)with rfl | rfl
  ·exact(HBH.out.cell 0).trans (by simp[iS])
  ·exact(HBH.out.cell 1).trans (by simp[iS])⟩)
 obtain⟨KB,hKB⟩:∃q,q=ar (nf s.C.code):=⟨_,rfl⟩
 have HKB:=zh hKB
 rw[<-hKB]at HKR HS16
 clear hKB
 refine wp_region_held_drew (S:=fun w'=>Below V2.heap.size V2 w') (by kernel_rfl) ((Below.refl _ V2).drew) (fun hHeld=>?_)
 rw[<-hw0]
 rw[<-hw0]at hHeld
 clear hw0 c34
 refine(aJ (i:=0) (oi:=⟨some 52,_,_,_,_,_⟩) (v:=.pointer (some ⟨g,0,none⟩)) rfl (Or.inl ⟨by rfl,fun W hW=>(by rfl)⟩) (by assumption) ?_)
 try simp only[Act.put,List.setIfInBounds_toArray,List.set_cons_succ,List.set_cons_zero]
 refine(aJ (i:=1) (oi:=⟨some 53,_,_,_,_,_⟩) (v:=.pointer (some ⟨g,0,none⟩)) rfl (Or.inl ⟨by rfl,fun W hW=>(by go_simp)⟩) (by assumption) ?_)
 try simp only[Act.put,List.setIfInBounds_toArray,List.set_cons_succ,List.set_cons_zero]
 refine(aJ (i:=2) (oi:=⟨some 54,_,_,_,_,_⟩) (v:=.pointer (some ⟨g,0,none⟩)) rfl (Or.inl ⟨by rfl,fun W hW=>(by go_simp)⟩) (by assumption) ?_)
 try simp only[Act.put,List.setIfInBounds_toArray,List.set_cons_succ,List.set_cons_zero]
 refine(aJ (i:=3) (oi:=⟨some 55,_,_,_,_,_⟩) (v:=.pointer (some ⟨g,18,none⟩)) rfl (Or.inl ⟨by rfl,fun W hW=>(by go_simp)⟩) (by assumption) ?_)
 try simp only[Act.put,List.setIfInBounds_toArray,List.set_cons_succ,List.set_cons_zero]
 refine'(aJ (i:=4) (oi:=⟨some 56,_,_,_,_,_⟩) (v:=_) rfl (yieldsIf_load_mid (by rfl) _ _ rfl g 18 rfl KB.toList _ (fun wK h=>HKR.out wK h) HUK.out rfl HS16.out) (by assumption) ?_)
 try simp only[Act.put,List.setIfInBounds_toArray,List.set_cons_succ,List.set_cons_zero]
 refine(aJ (i:=5) (oi:=⟨some 57,_,_,_,_,_⟩) (v:=.int .u32 ct) rfl (Or.inl ⟨by rfl,fun W hW=>(by rfl)⟩) (by assumption) ?_)
 try simp only[Act.put,List.setIfInBounds_toArray,List.set_cons_succ,List.set_cons_zero]
 refine(aJ (i:=6) (oi:=⟨some 58,_,_,_,_,_⟩) (v:=.pointer (some ⟨g,0,none⟩)) rfl (Or.inl ⟨by rfl,fun W hW=>(by rfl)⟩) (by assumption) ?_)
 try simp only[Act.put,List.setIfInBounds_toArray,List.set_cons_succ,List.set_cons_zero]
 refine(aJ (i:=7) (oi:=⟨some 59,_,_,_,_,_⟩) (v:=.pointer (some ⟨g,0,none⟩)) rfl (Or.inl ⟨by rfl,fun W hW=>(by go_simp)⟩) (by assumption) ?_)
 try simp only[Act.put,List.setIfInBounds_toArray,List.set_cons_succ,List.set_cons_zero]
 refine(aJ (i:=8) (oi:=⟨some 60,_,_,_,_,_⟩) (v:=.pointer (some ⟨g,0,none⟩)) rfl (Or.inl ⟨by rfl,fun W hW=>(by go_simp)⟩) (by assumption) ?_)
 try simp only[Act.put,List.setIfInBounds_toArray,List.set_cons_succ,List.set_cons_zero]
 refine(aJ (i:=9) (oi:=⟨some 61,_,_,_,_,_⟩) (v:=.pointer (some ⟨g,0,none⟩)) rfl (Or.inl ⟨by rfl,fun W hW=>(by go_simp)⟩) (by assumption) ?_)
 try simp only[Act.put,List.setIfInBounds_toArray,List.set_cons_succ,List.set_cons_zero]
 refine(aJ (i:=10) (oi:=⟨some 62,_,_,_,_,_⟩) (v:=.int .i64 (B:Int)) rfl (Or.inl ⟨by rfl,fun W hW=>(by have:=HC0.out W hW;go_simp)⟩) (by assumption) ?_)
 try simp only[Act.put,List.setIfInBounds_toArray,List.set_cons_succ,List.set_cons_zero]
 refine(aJ (i:=11) (oi:=⟨some 63,_,_,_,_,_⟩) (v:=.pointer (some ⟨g,0,none⟩)) rfl (Or.inl ⟨by rfl,fun W hW=>(by rfl)⟩) (by assumption) ?_)
 try simp only[Act.put,List.setIfInBounds_toArray,List.set_cons_succ,List.set_cons_zero]
 refine(aJ (i:=12) (oi:=⟨some 64,_,_,_,_,_⟩) (v:=.pointer (some ⟨g,0,none⟩)) rfl (Or.inl ⟨by rfl,fun W hW=>(by go_simp)⟩) (by assumption) ?_)
 try simp only[Act.put,List.setIfInBounds_toArray,List.set_cons_succ,List.set_cons_zero]
 refine(aJ (i:=13) (oi:=⟨some 65,_,_,_,_,_⟩) (v:=.pointer (some ⟨g,0,none⟩)) rfl (Or.inl ⟨by rfl,fun W hW=>(by go_simp)⟩) (by assumption) ?_)
 try simp only[Act.put,List.setIfInBounds_toArray,List.set_cons_succ,List.set_cons_zero]
 refine(aJ (i:=14) (oi:=⟨some 66,_,_,_,_,_⟩) (v:=.pointer (some ⟨g,1,none⟩)) rfl (Or.inl ⟨by rfl,fun W hW=>(by go_simp)⟩) (by assumption) ?_)
 try simp only[Act.put,List.setIfInBounds_toArray,List.set_cons_succ,List.set_cons_zero]
 refine(aJ (i:=15) (oi:=⟨some 67,_,_,_,_,_⟩) (v:=.int .i64 (D:Int)) rfl (Or.inl ⟨by rfl,fun W hW=>(by have:=HC1.out W hW;go_simp)⟩) (by assumption) ?_)
 try simp only[Act.put,List.setIfInBounds_toArray,List.set_cons_succ,List.set_cons_zero]
 refine(aJ (i:=16) (oi:=⟨some 68,_,_,_,_,_⟩) (v:=.slice (some ⟨hb,0,none⟩) 2 2) rfl (Or.inl ⟨by rfl,fun W hW=>(by rfl)⟩) (by assumption) ?_)
 try simp only[Act.put,List.setIfInBounds_toArray,List.set_cons_succ,List.set_cons_zero]
 refine(aJ (i:=17) (oi:=⟨some 69,_,_,_,_,_⟩) (v:=.slice AK nK cK) rfl (Or.inl ⟨by rfl,fun W hW=>(by rfl)⟩) (by assumption) ?_)
 try simp only[Act.put,List.setIfInBounds_toArray,List.set_cons_succ,List.set_cons_zero]
 refine wpAnyH_ready (rs:=[18]) (by kernel_rfl) (by simp) ?_
 refine AllReadyH.cons (o:=⟨some 70,_,_,_,_,_⟩) rfl (fun K hK=>?_) AllReadyH.nil
 rw[if_pos (by rfl)]
 go_simp
 obtain⟨w1,hv⟩:∃X,X=w0.alloc (.cells #[.slice (some ⟨hb,0,none⟩) 2 2,.slice AK nK cK] 44):=⟨_,rfl⟩
 obtain⟨sb,hsb⟩:=af w0.heap.size
 have hN:ae w1 sb 44 #[.slice (some ⟨hb,0,none⟩) 2 2,.slice AK nK cK]:=by rw[hv,hsb];exact ae.new _ _ _
 have hE:Below V2.heap.size V2 w1:=by rw[hv];exact hHeld.alloc hHeld.size _
 rw[<-hv,<-hsb]
 refine hK.out _ _ hE (fun hHeld=>?_)
 clear hK K hE hv hsb
 try simp only[Act.put,List.setIfInBounds_toArray,List.set_cons_succ,List.set_cons_zero]
 refine wpAnyH_ready (rs:=[19]) (by kernel_rfl) (by simp) ?_
 refine AllReadyH.cons (o:=⟨some 71,_,_,_,_,_⟩) rfl (fun K hK=>?_) AllReadyH.nil
 rw[if_pos (by rfl)]
 go_simp
 refine(kC sb hb ct nK cK AK (nf zK) HP.out.1 (by have:=HP.out;omega) w1 hN.lt (hN.cell 0) (hN.cell 1) (HHR.out.next hHeld) (HDR.out.next hHeld)).mono ?_
 rintro e w2 ⟨A5,c5,rfl,hR5,hB⟩
 dsimp only
 have HR5:=zh hR5
 have hE:Below V2.heap.size V2 w2:=hHeld.trans (hB.mono hHeld.size)
 refine hK.out _ _ hE (fun hHeld=>?_)
 clear hK K hE hB hR5 hN
 try simp only[Act.put,List.setIfInBounds_toArray,List.set_cons_succ,List.set_cons_zero]
 refine wpAnyH_ready (rs:=[20]) (by kernel_rfl) (by simp) ?_
 refine AllReadyH.cons (o:=⟨some 72,_,_,_,_,_⟩) rfl (fun K hK=>?_) AllReadyH.nil
 rw[if_pos (by rfl)]
 go_simp
 rw[HKB.out]
 refine(HCO.out (nf s.C.code) ct B D HCK.out HCT.out HBL.out HDL.out A5 (2+nK) c5 (cD (iS ct) 2 (nf zK)) w2 (by have:=HP.out;omega) (ge (fun j _=>mF ct j) (fun j hj=>fK HZ.out hj)) HR5.out).mono ?_
 rintro e w3 ⟨rfl,hB⟩
 dsimp only
 obtain⟨M,hM⟩:=af (iy (nf s.C.code) ct B D (cD (iS ct) 2 (nf zK)) (2+nK))
 have HM:=zh hM
 have M1:(M:Int) < 4294967296:=by
  have:M < 4294967296:=by rw[hM];exact nZ _ _ _ HCK.out (ge (fun j _=>mF ct j) (fun j hj=>fK HZ.out hj))
  omega
 have M0:(0:Int)<=(M:Int):=by omega
 rw[<-hM]
 have H3:Below V2.heap.size V2 w3:=hHeld.trans (hB.mono hHeld.size)
 refine hK.out _ _ H3 (fun hHeld=>?_)
 clear hK K hB hM
 try simp only[Act.put,List.setIfInBounds_toArray,List.set_cons_succ,List.set_cons_zero]
 refine(aJ (i:=21) (oi:=⟨some 51,_,_,_,_,_⟩) (v:=.tuple #[.int .u32 M,.int .i64 0]) rfl (Or.inl ⟨by rfl,fun W hW=>(by rfl)⟩) (by assumption) ?_)
 try simp only[Act.put,List.setIfInBounds_toArray,List.set_cons_succ,List.set_cons_zero]
 refine(aJ (i:=22) (oi:=⟨some 73,_,_,_,_,_⟩) (v:=.int .u32 M) rfl (Or.inl ⟨by rfl,fun W hW=>(by go_simp)⟩) (by assumption) ?_)
 try simp only[Act.put,List.setIfInBounds_toArray,List.set_cons_succ,List.set_cons_zero]
 refine(aJ (i:=24) (oi:=⟨some 13,_,_,_,_,_⟩) (v:=.int .u32 M) rfl (Or.inl ⟨by rfl,fun W hW=>(by rfl)⟩) (by assumption) ?_)
 try simp only[Act.put,List.setIfInBounds_toArray,List.set_cons_succ,List.set_cons_zero]
 refine(aJ (i:=23) (oi:=⟨some 74,_,_,_,_,_⟩) (v:=.int .i64 0) rfl (Or.inl ⟨by rfl,fun W hW=>(by go_simp)⟩) (by assumption) ?_)
 try simp only[Act.put,List.setIfInBounds_toArray,List.set_cons_succ,List.set_cons_zero]
 refine(aJ (i:=25) (oi:=⟨some 14,_,_,_,_,_⟩) (v:=.int .i64 0) rfl (Or.inl ⟨by rfl,fun W hW=>(by rfl)⟩) (by assumption) ?_)
 try simp only[Act.put,List.setIfInBounds_toArray,List.set_cons_succ,List.set_cons_zero]
 refine wpAnyH_done (by kernel_rfl) ?_ _
 have HH3:=zh H3
 clear H3 hHeld
 go_upto_region 13 with (fail)
 obtain⟨A6,c6,hv6,hsl6,hfr6⟩:=py HO2.out
 cases hv6
 have HSL3:=zh (hsl6.next HH3.out)
 have HFR6:=zh hfr6
 clear hsl6 hfr6
 have HNP:=zh (show nK+4<=9100 by have:=HP.out;omega)
 obtain⟨i0,hi,hz0,hz1,hz2⟩:=info_parts Tryz.infoByte
 obtain⟨X6,hX6⟩:=af (w3.alloc (.cells #[.int .u8 ((M:Int) / 16777216),.int .u8 ((M:Int) / 65536 % 256),.int .u8 ((M:Int) / 256 % 256),.int .u8 ((M:Int) % 256)] 5))
 have hb6:Below w3.heap.size w3 X6:=by rw[hX6];exact(Below.refl _ _).alloc ao _
 have HX6:=zh hX6
 have hNB:ae X6 w3.heap.size 5 #[.int .u8 ((M:Int) / 16777216),.int .u8 ((M:Int) / 65536 % 256),.int .u8 ((M:Int) / 256 % 256),.int .u8 ((M:Int) % 256)]:=by rw[hX6];exact ae.new _ _ _
 have HSRC:Hid (Src Tryz.prog 1 44 (.slice (some ⟨w3.heap.size,0,none⟩) 4 4) 4 [.int .u8 ((M:Int) / 16777216),.int .u8 ((M:Int) / 65536 % 256),.int .u8 ((M:Int) / 256 % 256),.int .u8 ((M:Int) % 256)] X6):=zh (Src.ofSlice _ Tryz.underlying44 ⟨w3.heap.size,0,none⟩ 4 4 _ rfl (fun j u hu=>by
  have hj:j < 4:=(List.getElem?_eq_some_iff.1 hu).1
  rw[Addr.add_lit,Nat.zero_add,hNB.cell j]
  simpa using hu) (by simp[Value.oneCell']))
 have HSL6:=zh (HSL3.out.next hb6)
 have HB6:=zh hb6
 clear hNB hX6 hb6 c0 c1
 go_upto_region 14 with (rw[<-HX6.out];refine aY rfl _ _ _ _ rfl X6 5 i0 (.int .u8 0) 1 1 Tryz.underlying44 hi hz0 hz1 hz2 rfl A2 nK c2 _ rfl HSL6.out _ rfl 4 _ HSRC.out (by decide) (by have:=HNP.out;unfold maxLen;omega) (by have:=HNP.out;omega) ?_;intro A7 c7 w7 hSL7 hK7 hA7;have HSL7:=zh hSL7;have HK7:=zh hK7;have HA7:=zh hA7;clear hSL7 hK7 hA7)
 have HX3:=zh (HBW.out.trans (HH3.out.mono HBW.out.size))
 have HV6:=zh (HBK.out.trans ((HH3.out.trans (HB6.out.mono HH3.out.size)).mono HBK.out.size))
 have HV7:=zh (aa.below HV6.out HK7.out (fun k ⟨a,ha,e⟩=>by rw[e];exact HFR6.out a ha) HV6.out.size)
 have HBW7:=zh (B2.out.trans (HV7.out.mono B2.out.size))
 have T7:=zh (HT.out.below HBW7.out)
 have HBH7:=zh (B1.out.below HV7.out B1.out.lt)
 obtain⟨PZ,hPZ⟩:=af (fz s.C ct nK (nf zK))
 have HPZ:=zh hPZ
 have HPL:=zh (show ∀j,j < nK+4->PZ j < 256 from fun j _=>by rw[hPZ];exact l6 (fun j hj=>fK HZ.out hj) j)
 have HR7:=zh (show au w7 w7.heap.size A7 (nK+4) (fun j=>.int .u8 ((PZ j:Nat):Int))from i5 HSL7.out (fun j hj=>by
  rw[hPZ]
  unfold fz cD
  by_cases hjn:j < nK
  ·rw[if_pos hjn,List.getElem?_append_left (by simpa using hjn)]
   simp[hjn,cv HZ.out hjn]
  ·rw[if_neg hjn,List.getElem?_append_right (by simp;omega),List.length_map,List.length_range]
   have hm:=HM.out
   rw[HB.out,HD.out]at hm
   unfold cD at hm
   rw[<-hm]
   rcases (by omega:j=nK\/j=nK+1\/j=nK+2\/j=nK+3)with rfl | rfl | rfl | rfl
   ·rw[Nat.sub_self];unfold gy;simp;omega
   ·rw[show nK+1-nK=1 by omega];unfold gy;simp
   ·rw[show nK+2-nK=2 by omega];unfold gy;simp
   ·rw[show nK+3-nK=3 by omega];unfold gy;simp))
 clear hPZ
 obtain⟨wz,hwz⟩:=af w7.drew
 have hbz:Below w7.heap.size w7 wz:=by rw[hwz];exact(Below.refl _ _).drew
 have HKR7:=zh (show ∀W',Below w7.heap.size w7 W'->W'.rangeAt g 2 (ar (nf s.C.key)).toList from fun W' hW j v hv=>by
  have hj:j < 16:=by have:=(List.getElem?_eq_some_iff.1 hv).1;rw[Array.length_toList,ah]at this;exact this
  rw[(T7.out.below hW).cC (j:=2+j) (by omega),<-hv,Array.getElem?_toList,aR _ hj]
  unfold aZ.cell
  rw[if_neg (by omega),if_neg (by omega),if_pos (by omega),show 2+j-2=j by omega,cv hok.key hj])
 have HC07:=zh (show ∀W',Below w7.heap.size w7 W'->W'.cell? ⟨g,0,none⟩=some (.int .i64 (B:Int))from fun W' hW=>((T7.out.below hW).cC (j:=0) (by decide)).trans (by rw[show s.C.cell 0=.int .i64 s.C.b from rfl,HBI.out]))
 have HC17:=zh (show ∀W',Below w7.heap.size w7 W'->W'.cell? ⟨g,1,none⟩=some (.int .i64 (D:Int))from fun W' hW=>((T7.out.below hW).cC (j:=1) (by decide)).trans (by rw[show s.C.cell 1=.int .i64 s.C.d from rfl,HDI.out]))
 have HS17:Hid ((Tryz.prog.info? 23).map (·.size)=some (ar (nf s.C.key)).toList.length):=zh (by rw[Array.length_toList,ah];kernel_rfl)
 have HCR:=zh (ir (nf s.C.key) ct B D HKL.out HCT.out HBL.out HDL.out A7 (nK+4) c7 PZ (by omega) (by have:=HP.out;omega) HPL.out wz (HR7.out.next hbz))
 obtain⟨KC,hKC⟩:∃q,q=ar (nf s.C.key):=⟨_,rfl⟩
 rw[<-hKC]at HKR7 HS17 HCR
 clear hKC
 refine wp_region_held_drew (S:=fun w'=>Below w7.heap.size w7 w') (by kernel_rfl) ((Below.refl _ w7).drew) (fun hHeld=>?_)
 rw[<-hwz]
 rw[<-hwz]at hHeld
 clear hwz
 refine(aJ (i:=0) (oi:=⟨some 93,_,_,_,_,_⟩) (v:=.pointer (some ⟨g,0,none⟩)) rfl (Or.inl ⟨by rfl,fun W hW=>(by rfl)⟩) (by assumption) ?_)
 try simp only[Act.put,List.setIfInBounds_toArray,List.set_cons_succ,List.set_cons_zero]
 refine(aJ (i:=1) (oi:=⟨some 94,_,_,_,_,_⟩) (v:=.pointer (some ⟨g,0,none⟩)) rfl (Or.inl ⟨by rfl,fun W hW=>(by go_simp)⟩) (by assumption) ?_)
 try simp only[Act.put,List.setIfInBounds_toArray,List.set_cons_succ,List.set_cons_zero]
 refine(aJ (i:=2) (oi:=⟨some 95,_,_,_,_,_⟩) (v:=.pointer (some ⟨g,0,none⟩)) rfl (Or.inl ⟨by rfl,fun W hW=>(by go_simp)⟩) (by assumption) ?_)
 try simp only[Act.put,List.setIfInBounds_toArray,List.set_cons_succ,List.set_cons_zero]
 refine(aJ (i:=3) (oi:=⟨some 96,_,_,_,_,_⟩) (v:=.pointer (some ⟨g,2,none⟩)) rfl (Or.inl ⟨by rfl,fun W hW=>(by go_simp)⟩) (by assumption) ?_)
 try simp only[Act.put,List.setIfInBounds_toArray,List.set_cons_succ,List.set_cons_zero]
 refine'(aJ (i:=4) (oi:=⟨some 97,_,_,_,_,_⟩) (v:=_) rfl (yieldsIf_load_mid (by rfl) _ _ rfl g 2 rfl KC.toList _ (fun wK h=>HKR7.out wK h) HUK.out rfl HS17.out) (by assumption) ?_)
 try simp only[Act.put,List.setIfInBounds_toArray,List.set_cons_succ,List.set_cons_zero]
 refine(aJ (i:=5) (oi:=⟨some 98,_,_,_,_,_⟩) (v:=.int .u32 ct) rfl (Or.inl ⟨by rfl,fun W hW=>(by rfl)⟩) (by assumption) ?_)
 try simp only[Act.put,List.setIfInBounds_toArray,List.set_cons_succ,List.set_cons_zero]
 refine(aJ (i:=6) (oi:=⟨some 99,_,_,_,_,_⟩) (v:=.pointer (some ⟨g,0,none⟩)) rfl (Or.inl ⟨by rfl,fun W hW=>(by rfl)⟩) (by assumption) ?_)
 try simp only[Act.put,List.setIfInBounds_toArray,List.set_cons_succ,List.set_cons_zero]
 refine(aJ (i:=7) (oi:=⟨some 100,_,_,_,_,_⟩) (v:=.pointer (some ⟨g,0,none⟩)) rfl (Or.inl ⟨by rfl,fun W hW=>(by go_simp)⟩) (by assumption) ?_)
 try simp only[Act.put,List.setIfInBounds_toArray,List.set_cons_succ,List.set_cons_zero]
 refine(aJ (i:=8) (oi:=⟨some 101,_,_,_,_,_⟩) (v:=.pointer (some ⟨g,0,none⟩)) rfl (Or.inl ⟨by rfl,fun W hW=>(by go_simp)⟩) (by assumption) ?_)
 try simp only[Act.put,List.setIfInBounds_toArray,List.set_cons_succ,List.set_cons_zero]
 refine(aJ (i:=9) (oi:=⟨some 102,_,_,_,_,_⟩) (v:=.pointer (some ⟨g,0,none⟩)) rfl (Or.inl ⟨by rfl,fun W hW=>(by go_simp)⟩) (by assumption) ?_)
 try simp only[Act.put,List.setIfInBounds_toArray,List.set_cons_succ,List.set_cons_zero]
 refine(aJ (i:=10) (oi:=⟨some 103,_,_,_,_,_⟩) (v:=.int .i64 (B:Int)) rfl (Or.inl ⟨by rfl,fun W hW=>(by have:=HC07.out W hW;go_simp)⟩) (by assumption) ?_)
 try simp only[Act.put,List.setIfInBounds_toArray,List.set_cons_succ,List.set_cons_zero]
 refine(aJ (i:=11) (oi:=⟨some 104,_,_,_,_,_⟩) (v:=.pointer (some ⟨g,0,none⟩)) rfl (Or.inl ⟨by rfl,fun W hW=>(by rfl)⟩) (by assumption) ?_)
 try simp only[Act.put,List.setIfInBounds_toArray,List.set_cons_succ,List.set_cons_zero]
 refine(aJ (i:=12) (oi:=⟨some 105,_,_,_,_,_⟩) (v:=.pointer (some ⟨g,0,none⟩)) rfl (Or.inl ⟨by rfl,fun W hW=>(by go_simp)⟩) (by assumption) ?_)
 try simp only[Act.put,List.setIfInBounds_toArray,List.set_cons_succ,List.set_cons_zero]
 refine(aJ (i:=13) (oi:=⟨some 106,_,_,_,_,_⟩) (v:=.pointer (some ⟨g,0,none⟩)) rfl (Or.inl ⟨by rfl,fun W hW=>(by go_simp)⟩) (by assumption) ?_)
 try simp only[Act.put,List.setIfInBounds_toArray,List.set_cons_succ,List.set_cons_zero]
 refine(aJ (i:=14) (oi:=⟨some 107,_,_,_,_,_⟩) (v:=.pointer (some ⟨g,1,none⟩)) rfl (Or.inl ⟨by rfl,fun W hW=>(by go_simp)⟩) (by assumption) ?_)
 try simp only[Act.put,List.setIfInBounds_toArray,List.set_cons_succ,List.set_cons_zero]
 refine(aJ (i:=15) (oi:=⟨some 108,_,_,_,_,_⟩) (v:=.int .i64 (D:Int)) rfl (Or.inl ⟨by rfl,fun W hW=>(by have:=HC17.out W hW;go_simp)⟩) (by assumption) ?_)
 try simp only[Act.put,List.setIfInBounds_toArray,List.set_cons_succ,List.set_cons_zero]
 refine(aJ (i:=16) (oi:=⟨some 109,_,_,_,_,_⟩) (v:=.slice A7 (nK+4:Nat) c7) rfl (Or.inl ⟨by rfl,fun W hW=>(by rfl)⟩) (by assumption) ?_)
 try simp only[Act.put,List.setIfInBounds_toArray,List.set_cons_succ,List.set_cons_zero]
 refine wpAnyH_ready (rs:=[17]) (by kernel_rfl) (by simp) ?_
 refine AllReadyH.cons (o:=⟨some 110,_,_,_,_,_⟩) rfl (fun K hK=>?_) AllReadyH.nil
 rw[if_pos (by rfl)]
 go_simp
 refine(HCR.out).mono ?_
 rintro e w8 ⟨A3,c3,rfl,hc3,hF3,hR3,hB3⟩
 dsimp only
 have HR8:=zh hR3
 have H8:Below w7.heap.size w7 w8:=hHeld.trans (hB3.mono hbz.size)
 refine hK.out _ _ H8 (fun hHeld=>?_)
 clear hK K hR3 hF3 hc3 hB3
 try simp only[Act.put,List.setIfInBounds_toArray,List.set_cons_succ,List.set_cons_zero]
 refine(aJ (i:=18) (oi:=⟨some 92,_,_,_,_,_⟩) (v:=.tuple #[.slice A3 (nK+4:Nat) c3,.int .i64 0]) rfl (Or.inl ⟨by rfl,fun W hW=>(by rfl)⟩) (by assumption) ?_)
 try simp only[Act.put,List.setIfInBounds_toArray,List.set_cons_succ,List.set_cons_zero]
 refine(aJ (i:=19) (oi:=⟨some 111,_,_,_,_,_⟩) (v:=.slice A3 (nK+4:Nat) c3) rfl (Or.inl ⟨by rfl,fun W hW=>(by go_simp)⟩) (by assumption) ?_)
 try simp only[Act.put,List.setIfInBounds_toArray,List.set_cons_succ,List.set_cons_zero]
 refine(aJ (i:=21) (oi:=⟨some 15,_,_,_,_,_⟩) (v:=.slice A3 (nK+4:Nat) c3) rfl (Or.inl ⟨by rfl,fun W hW=>(by rfl)⟩) (by assumption) ?_)
 try simp only[Act.put,List.setIfInBounds_toArray,List.set_cons_succ,List.set_cons_zero]
 refine(aJ (i:=20) (oi:=⟨some 112,_,_,_,_,_⟩) (v:=.int .i64 0) rfl (Or.inl ⟨by rfl,fun W hW=>(by go_simp)⟩) (by assumption) ?_)
 try simp only[Act.put,List.setIfInBounds_toArray,List.set_cons_succ,List.set_cons_zero]
 refine(aJ (i:=22) (oi:=⟨some 16,_,_,_,_,_⟩) (v:=.int .i64 0) rfl (Or.inl ⟨by rfl,fun W hW=>(by rfl)⟩) (by assumption) ?_)
 try simp only[Act.put,List.setIfInBounds_toArray,List.set_cons_succ,List.set_cons_zero]
 refine wpAnyH_done (by kernel_rfl) ?_ _
 have HH8:=zh H8
 clear H8 hHeld
 go_upto_region 17 with (fail)
 have HB8:=zh (HBH7.out.below HH8.out HBH7.out.lt)
 have HSH:=zh (show SL w8 5 1 (some ⟨hb,0,none⟩) 2 2 [.int .u8 (128+(ct:Int) / 256 % 16),.int .u8 ((ct:Int) % 256)]from ⟨rfl,.inr ⟨hb,0,_,rfl,HB8.out,Nat.le_refl _,by unfold maxLen;omega,by simp,fun j hj=>by rw[Nat.zero_add];simp⟩⟩)
 obtain⟨lb,lo,hA3,hlb,hlc⟩:=HR8.out (by omega)
 subst hA3
 have HLC:=zh hlc
 obtain⟨CF,hCF⟩:=af (jK (nf s.C.key) ct B D PZ)
 have HCF:=zh hCF
 rw[<-hCF]at HLC
 have HSRC8:Hid (Src Tryz.prog 1 44 (.slice (some ⟨lb,lo,none⟩) (nK+4:Nat) c3) (nK+4) ((List.range (nK+4)).map fun j=>.int .u8 ((CF j:Nat):Int)) w8):=zh (Src.ofSlice _ Tryz.underlying44 ⟨lb,lo,none⟩ (nK+4) c3 _ (by simp) (fun j u hu=>by
   have hj:j < nK+4:=by have:=(List.getElem?_eq_some_iff.1 hu).1;simpa using this
   rw[Addr.add_lit,HLC.out j hj,<-hu]
   simp[hj]) (fun u hu=>by
    obtain⟨j,_,rfl⟩:=List.mem_map.1 hu
    rfl))
 clear hlc hCF
 go_wp2_with (refine aY rfl _ _ _ _ rfl w8 5 i0 (.int .u8 0) 1 1 Tryz.underlying44 hi hz0 hz1 hz2 rfl (some ⟨hb,0,none⟩) 2 2 _ rfl HSH.out _ rfl (nK+4) ((List.range (nK+4)).map fun j=>.int .u8 ((CF j:Nat):Int)) HSRC8.out (by omega) (by have:=HP.out;unfold maxLen;omega) (by have:=HP.out;omega) ?_;intro A9 c9 wA hSL9 hK9 hA9;have HSL9:=zh hSL9;have HK9:=zh hK9;have HA9:=zh hA9;clear hSL9 hK9 hA9)
 go_ret2
 refine fY.after HN1.out HZ1.out HKC.out HOC.out ?_
 have hw8:wK.heap.size<=w8.heap.size:=ba HBW7.out.size HH8.out.size
 have hpn:cy s.C nK=2+(nK+4):=by unfold cy kr;rw[HIG.out];rfl
 refine⟨A9,c9,by rw[hpn];rfl,by rw[hpn];exact HSL9.out.le,fun a e=>⟨?_,by obtain⟨cur,h⟩:=HSL9.out.obj e;exact⟨cur,_,h⟩⟩,?_,aa.below (HBW7.out.trans (HH8.out.mono HBW7.out.size)) HK9.out (fun k ⟨a,ha,e⟩=>by cases ha;rw[e];exact Nat.le_of_eq HHB.out.symm) hw8⟩
 ·rcases HA9.out a e with ⟨a',ha',e'⟩ | hge
  ·cases ha'
   rw[e',HHB.out]
   exact Nat.le_refl _
  ·omega
 ·rw[hpn]
  refine(i5 HSL9.out (fun j hj=>?_)).more ao
  unfold gL cD
  by_cases hj2:j < 2
  ·rw[if_pos hj2,List.getElem?_append_left (by simpa using hj2)]
   rcases (by omega:j=0\/j=1)with rfl | rfl
   ·simp[iS]
   ·simp[iS]
  ·rw[if_neg hj2,List.getElem?_append_right (by simp;omega)]
   have hjn:j-2 < nK+4:=by omega
   rw[<-HPZ.out,<-HB.out,<-HD.out,<-HCF.out]
   simp[hjn]
theorem ov (g:Nat) (C:aZ) (hok:C.Ok) (hv:C.Valid):qS g C:=fun s o W R qA qc lq pA pc lp ub cb V hC ho hT m hm hc ct hct A n c z h1 h9 hcap hr hz hA=>by
 subst hC
 cases hcm:s.C.cm
 ·have hI:dK V g s W R:=⟨qA,qc,lq,pA,pc,lp,ub,cb,hT⟩
  have hk:V.heap[cb]? = some o:=by rw[<-ho];exact hT.k
  cases hig:s.C.ig
  ·exact(mt g s W R V hI hok hv hig hcm ct hct A n c z h1 h9 hr hz).mono fun _ _ hb=>hb.toK hcm hk
  ·exact(rV qG g s W R V hI hok hv hig hcm ct hct A n c z h1 h9 hr hz).mono fun _ _ hb=>hb.toK hcm hk
 ·cases hig:s.C.ig
  ·exact ld g s W R V o ho qA qc lq pA pc lp ub cb hT m hm hc hok hv hig hcm ct hct A n c z h1 h9 hcap hr hz hA
  ·exact p9 qG g s W R V o ho qA qc lq pA pc lp ub cb hT m hm hc hok hv hig hcm ct hct A n c z h1 h9 hcap hr hz hA
end Go.Proofs.YtiiojpnckbglcaaGreat
