import Derived.Test.YtnadmdadcpemnaaGreatMWHq
import Derived.Test.YtnadmdadcpemnaaGreatMZMq
import Derived.Test.YtnadmdadcpemnaaGreatB1q
set_option maxRecDepth 100000
set_option maxHeartbeats 6400000
namespace Go.Proofs.YtnadmdadcpemnaaGreat
set_option linter.unusedVariables false
set_option linter.unusedSimpArgs false
open Go.RowKit
attribute [local go_sem ↓] Go.wp_at_zero Go.wp_at_succ
private theorem tkL {P:Program} {ops:Array Oper} {Q:Exit->Act->World->Prop} {md:Region.Mode} {S:World->Prop} {L i:Nat} {oi:Oper} {v:Value} {fuel:Nat} {listed l':Array Bool} {a a':Act} {w:World} (hi:ops[i]? = some oi) (hy:YieldsIf P ops S oi v a) (hS:S w)
  (h:wpAnyL P md ops Q S L fuel l' a' w) (hl:listed.setIfInBounds i true=l':=by(try simp only[qa,qb,qc]);rfl) (ha:a.put oi.dst v=a':=by(try simp only[Act.put,qa,qb,qc]);rfl) (hL:waitsFor md ops L i=true:=by kernel_rfl) (hs:Region.noSelect ops=true:=by kernel_rfl) (hf:Region.free md ops listed i=true:=by kernel_rfl) (hr:(Region.ready md ops listed).contains i=true:=by kernel_rfl)
  (hQ:∀c a w,Q (.panic c) (a.put oi.dst v) w->Q (.panic c) a w:=by exact fun _ _ _ h=>h):wpAnyL P md ops Q S L (fuel+1) listed a w:=by subst hl;subst ha;exact wpAnyL_take hi hL hs hf hr hQ hy hS h
theorem infoKeyV:∃i:TypeInfo,Tryz.prog.info? 23 = some i/\i.zero=some (.agg #[.int .u8 0,.int .u8 0,.int .u8 0,.int .u8 0,.int .u8 0,.int .u8 0,.int .u8 0,.int .u8 0,.int .u8 0,.int .u8 0,.int .u8 0,.int .u8 0,.int .u8 0,.int .u8 0,.int .u8 0,.int .u8 0])/\i.size=16/\i.bytes=16:=by
 have h:(Tryz.prog.info? 23).map (fun i=>(i.zero,i.size,i.bytes))=some (some (.agg #[.int .u8 0,.int .u8 0,.int .u8 0,.int .u8 0,.int .u8 0,.int .u8 0,.int .u8 0,.int .u8 0,.int .u8 0,.int .u8 0,.int .u8 0,.int .u8 0,.int .u8 0,.int .u8 0,.int .u8 0,.int .u8 0]),16,16):=by kernel_rfl
 cases hi:Tryz.prog.info? 23 with
 | none=>rw[hi]at h;cases h
 | some i=>
  rw[hi]at h;simp only[Option.map_some,Option.some.injEq,Prod.mk.injEq]at h
  exact⟨i,rfl,h.1,h.2.1,h.2.2⟩
theorem vkeyEq_symm {f g:Nat->Int} (h:keyEq f g=true):keyEq g f=true:=by
 unfold keyEq at h ⊢;rw[List.all_eq_true]at h ⊢;intro j hj;have:=h j hj;simp only[beq_iff_eq,decide_eq_true_eq]at this ⊢
 exact this.symm
section
variable {w w':World} {h:Nat} {s:RS} {ks:List (Nat->Int)} {M R:Nat->Prop} {A:Option Addr} {c:Nat} {l:List SE} {uA:Option Addr} {uc:Nat}
theorem VM.ucell (m:VM w h s ks M R A c l uA uc) {k:Nat} {g:Nat->Int} (hk:ks[k]? = some g):∃b o,uA=some ⟨b,o,none⟩/\b < w.heap.size/\w.rangeAt b (o+k*16) (kArr g).toList:=by
 have hlt:k < ks.length:=(List.getElem?_eq_some_iff.1 hk).1;obtain⟨b,o,hA,hb⟩:=m.us.some_ (by omega);refine⟨b,o,hA,hb,fun j v hv=>?_⟩;have hj:j < 16:=(List.getElem?_eq_some_iff.1 hv).1;have:=m.us.cell hA (j:=k*16+j) (by have:=Nat.mul_le_mul_right 16 hlt;rw[Nat.succ_mul]at this;omega);rw[<-Nat.add_assoc]at this;rw[this,flat_at vkCells 16 vkCells_len ks k j g hk hj]
 exact hv
theorem vfresh_ok (m:VM w h s ks M R A c l uA uc) (hlu:ks.length<=1000000) (f:Nat->Int) :
  Calls Tryz.prog 54 #[.pointer (some ⟨h,0,none⟩),.agg (kArr f)] w fun e w'=>e=.returned (.bool (!hasKey f ks))/\Below w.heap.size w w':=by
 have HM:=zh m;obtain⟨n,hn⟩:∃n,n=ks.length:=⟨_,rfl⟩
 have HLN:=zh hn;have n9:n<=1000000:=by rw[hn];exact hlu
 have n0:(0:Int)<=(n:Int):=by omega
 have n91:(n:Int)<=1000000:=by omega
 have HEQ0:=zh (fun(g:Nat->Int) W=>k_eq g f 9998 W);have HSK:=zh (k_size f);have HUK:=zh Tryz.underlying23;obtain⟨rr,hrr⟩:∃rr,rr = !hasKey f ks:=⟨_,rfl⟩
 rw[<-hrr];have HRR:=zh hrr;obtain⟨KF,hKF⟩:∃KF,KF=kArr f:=⟨_,rfl⟩
 rw[<-hKF]at HEQ0 HSK ⊢;clear m hn hlu hrr hKF;go_enter Tryz.func54,Tryz.ntmps54;go_upto_region 1 with (fail)
 obtain⟨kb,hkb⟩:∃kb,kb=w.heap.size:=⟨_,rfl⟩
 refine wp_let (fun V=>Blk V kb 23 KF/\Below w.heap.size w V) ⟨by rw[hkb];exact Blk.new _ _ _,(Below.refl _ w).alloc (Nat.le_refl _) _⟩ ?_;rintro W1 ⟨b1,b2⟩;have B1:=zh b1;have B2:=zh b2;rw[<-hkb];clear b1 b2 hkb;go_wp2;go_loopw [5] (fun v5 wr=>∃k:Nat,k<=n/\v5=.int .i64 k/\(∀j g,j < k->ks[j]? = some g->keyEq g f=false)/\Below W1.heap.size W1 wr) (fun v5 _=>n+1-(intOf v5).toNat)
 case atStart=>exact⟨0,by omega,rfl,fun j g hj=>absurd hj (by omega),Below.refl _ _⟩
 case round=>
  obtain⟨k,hk,rfl,hall,hB⟩:=hrel;have HALL:=zh hall;have HB:=zh hB;have HB2:=zh (B2.out.trans (hB.mono B2.out.size));have k0:(0:Int)<=(k:Int):=by omega
  have hMr:=HM.out.below HB2.out;have y46:wr.cell? ⟨h,46,none⟩=some (.slice uA n uc):=by rw[HLN.out];exact hMr.cu
  clear hall;by_cases hkn:k < n
  ·obtain⟨g,hg⟩:∃g,ks[k]? = some g:=⟨_,List.getElem?_eq_getElem (by rw[<-HLN.out];exact hkn)⟩
   obtain⟨b,o,huA,hb,hrg⟩:=hMr.ucell hg;subst huA;have k1:(k:Int) < (n:Int):=by omega
   have HG:=zh hg;have HEQ:=zh (HEQ0.out g);have HR1:=zh (show ∀W,Below wr.heap.size wr W->W.rangeAt b (o+k*16) (kArr g).toList/\W.cell? ⟨h,46,none⟩=some (.slice (some ⟨b,o,none⟩) n uc)from fun W hW=>⟨fun j x hx=>(hW.cell (p:=⟨b,o+k*16+j,none⟩) hb).trans (hrg j x hx),(hW.cell (p:=⟨h,46,none⟩) hMr.blk.lt).trans y46⟩);have HR2:=zh (show ∀W,Below wr.heap.size wr W->W.rangeAt kb 0 KF.toList from fun W hW=>((B1.out.below hB B1.out.lt).below hW (B1.out.below hB B1.out.lt).lt).range _ (by simp));have HSG:=zh (k_size g);obtain⟨KG,hKG⟩:∃KG,KG=kArr g:=⟨_,rfl⟩
   rw[<-hKG]at HEQ HR1 HSG;obtain⟨q,hq⟩:∃q,q=keyEq g f:=⟨_,rfl⟩
   rw[<-hq]at HEQ;have HQ:=zh hq;clear hB hMr hg hrg hKG hq hb;go_upto_region 4 with (fail)
   clear y46;refine wp_region_held_drew (S:=fun w'=>Below wr.heap.size wr w') (by kernel_rfl) ((Below.refl _ wr).drew) (fun hHeld=>?_);obtain⟨u0,hu0⟩:∃u0,u0=wr.drew:=⟨_,rfl⟩
   rw[<-hu0];rw[<-hu0]at hHeld;have HU0:=zh hHeld;clear hu0;refine tkR (i:=0) (x:=some 15) (v:=.pointer (some ⟨h,0,none⟩)) rfl ?_;refine tkS (i:=1) (x:=some 16) (v:=.pointer (some ⟨h,0,none⟩)) rfl ?_;refine tkS (i:=2) (x:=some 17) (v:=.pointer (some ⟨h,46,none⟩)) rfl ?_;refine tkY (i:=3) (x:=some 18) (v:=.slice (some ⟨b,o,none⟩) n uc) rfl (.inl ⟨by rfl,fun W hW=>(by have:=(HR1.out W hW).2;go_simp)⟩) ?_;refine tkR (i:=4) (x:=some 19) (v:=.int .i64 (k:Int)) rfl ?_;refine tkS (i:=5) (x:=some 20) (v:=.pointer (some ⟨b,o+k*16,none⟩)) rfl ?_;refine' tkY (i:=6) (x:=some 21) (v:=_) rfl (yieldsIf_load_mid (by rfl) _ _ rfl b (o+k*16) rfl KG.toList _ (fun W hW=>(HR1.out W hW).1) HUK.out rfl HSG.out) ?_;refine' tkY (i:=7) (x:=some 22) (v:=_) rfl (yieldsIf_load_mid (by rfl) _ _ rfl kb 0 rfl KF.toList _ (fun w h=>HR2.out w h) HUK.out rfl HSK.out) ?_;refine tkY (i:=8) (x:=some 23) (v:=.bool q) rfl (.inl ⟨by rfl,fun W hW=>(by have:=HEQ.out W;go_simp)⟩) ?_;refine wpAnyH_done (by kernel_rfl) ?_ _;have HBE:=zh (HB.out.trans (hHeld.mono HB.out.size));clear hHeld
   cases q
   ·go_wp2;go_roundw
    case rel=>exact⟨k+1,by omega,by go_num,fun j g' hj hg'=>by
     by_cases e:j=k
     ·subst e;rw[HG.out]at hg'
      cases hg'
      exact HQ.out.symm
     ·exact HALL.out j g' (by omega) hg',HBE.out⟩
    case measure=>simp[intOf];omega
   ·have HF:=zh (show false=rr by
     rw[HRR.out];have:hasKey f ks=true:=List.any_eq_true.2 ⟨g,List.mem_of_getElem? HG.out,vkeyEq_symm HQ.out.symm⟩;rw[this]
     rfl)
    go_wp2;go_ret
    exact⟨ret_bool HF.out,B2.out.trans (HBE.out.mono B2.out.size)⟩
  ·obtain rfl:n=k:=by omega
   have k1:¬(n:Int) < (n:Int):=by omega
   have HF:=zh (show true=rr by
    rw[HRR.out];have:hasKey f ks=false:=by
     unfold hasKey;rw[List.any_eq_false];intro g hg;obtain⟨j,hj⟩:=List.mem_iff_getElem?.1 hg;have h1:=HALL.out j g (by rw[HLN.out];exact(List.getElem?_eq_some_iff.1 hj).1) hj;intro h2;rw[vkeyEq_symm h2]at h1
     cases h1
    rw[this]
    rfl)
   clear hB hkn hk hMr;go_wp2;go_ret
   exact⟨ret_bool HF.out,HB2.out⟩
end
theorem vArr_keys (C:Cfg) (f c:Nat->Int) (now d nx:Int) (q:Value) (run:Bool) (lim ex:Int) (u:Value) (dup:Int):tsAll (tsAll (vArr C.arr now d nx q run lim ex u dup) 2 (kArr f).toList) 18 (kArr c).toList=vArr (C.keys f c).arr now d nx q run lim ex u dup:=by
 have l1:(kArr f).toList.length=16:=rfl;have l2:(kArr c).toList.length=16:=rfl;have hs:=vArr_size (now:=now) (d:=d) (nx:=nx) (q:=q) (run:=run) (lim:=lim) (ex:=ex) (u:=u) (dup:=dup) C.arr_size;apply Array.ext_getElem?;intro j;by_cases h1:18<=j/\j < 34
 ·have:=tsAll_in (kArr c).toList 18 (tsAll (vArr C.arr now d nx q run lim ex u dup) 2 (kArr f).toList) (j-18) (by omega) (by rw[tsAll_size,hs];omega);rw[show 18+(j-18)=j by omega]at this;rw[this,Array.getElem?_toList,kArr_at c _ (by omega),vArr_low (C.keys f c).arr_size (by omega),Cfg.arr_at _ (by omega)];unfold Cfg.cell;rw[if_neg (by omega),if_neg (by omega),if_neg (by omega),if_pos (by omega)]
  rfl
 ·rw[tsAll_out _ _ _ _ (by omega)];by_cases h2:2<=j/\j < 18
  ·have:=tsAll_in (kArr f).toList 2 (vArr C.arr now d nx q run lim ex u dup) (j-2) (by omega) (by rw[hs];omega);rw[show 2+(j-2)=j by omega]at this;rw[this,Array.getElem?_toList,kArr_at f _ (by omega),vArr_low (C.keys f c).arr_size (by omega),Cfg.arr_at _ (by omega)];unfold Cfg.cell;rw[if_neg (by omega),if_neg (by omega),if_pos (by omega)]
   rfl
  ·rw[tsAll_out _ _ _ _ (by omega)];by_cases h3:j < 39
   ·rw[vArr_low C.arr_size h3,vArr_low (C.keys f c).arr_size h3,C.arr_at h3,Cfg.arr_at _ h3];unfold Cfg.cell Cfg.keys;by_cases h4:j < 18
    ·have:j=0\/j=1:=by omega
     rcases this with rfl | rfl<;>rfl
    ·have:j=34\/j=35\/j=36\/j=37\/j=38:=by omega
     rcases this with rfl | rfl | rfl | rfl | rfl<;>rfl
   ·by_cases h4:j < 48
    ·have:=vArr_high (now:=now) (d:=d) (nx:=nx) (q:=q) (run:=run) (lim:=lim) (ex:=ex) (u:=u) (dup:=dup) C.arr_size (j-39);have h5:=vArr_high (now:=now) (d:=d) (nx:=nx) (q:=q) (run:=run) (lim:=lim) (ex:=ex) (u:=u) (dup:=dup) (C.keys f c).arr_size (j-39);rw[show 39+(j-39)=j by omega]at this h5;rw[this,h5]
    ·rw[Array.getElem?_eq_none (by omega),Array.getElem?_eq_none (by rw[vArr_size (C.keys f c).arr_size];omega)]
theorem vbuild_key (f:Nat->Int) (w:World):(Instr.buildSlice 95 1 #[(0,.agg (kArr f))]).run Tryz.prog w=.ok (.slice (some ⟨w.heap.size,0,none⟩) 1 1) (w.alloc (.cells (kArr f) 23)):=by kernel_rfl
theorem wp_vbuild_key {o:Oper} {a:Act} {K:Act->World->Prop} {Q:Exit->Act->World->Prop} (x:Operand) (ho:o.op=.buildSlice 95 1 #[(0,x)]) (w:World) (KF:Array Value) (f:Nat->Int) (hx:a.eval x=.agg KF) (hv:KF=kArr f)
  (h:K (a.put o.dst (.slice (some ⟨w.heap.size,0,none⟩) 1 1)) (w.alloc (.cells KF 23))):o.wp Tryz.prog a w K Q:=by
 subst hv;unfold Oper.wp execOp;simp only[ho,Sem.run_bind,List.map_toArray,List.map_cons,List.map_nil,hx,vbuild_key,Result.andThen_ok]
 exact h
def vaBlk (A:Option Addr) (k:Nat):Prop:=∃a,A=some a/\k=a.block
def vBlk (h:Nat) (uA:Option Addr) (k:Nat):Prop:=k=h\/vaBlk uA k
def VRkO (w:World) (h:Nat) (s:RS) (ks:List (Nat->Int)) (M R:Nat->Prop) (A:Option Addr) (cq:Nat) (l:List SE) (uA:Option Addr) (uc:Nat) (f c:Nat->Int) (e:Ending) (w':World):Prop:=
 (e=.returned (.int .i64 461)/\hasKey f ks=true/\Below w.heap.size w w')\/(e=.returned (.int .i64 0)/\hasKey f ks=false/\∃A9 c9 M',VM w' h (s.rekeyed f c) (ks++[f]) M' R A cq l A9 c9/\(∀k,M' k->M k\/w.heap.size<=k)/\KeepF (vBlk h uA) w w')
section
variable {w w1 w':World} {h:Nat} {s:RS} {ks:List (Nat->Int)} {M R:Nat->Prop} {A:Option Addr} {cq:Nat} {l:List SE} {uA:Option Addr} {uc:Nat}
theorem VM.ulow (m:VM w h s ks M R A cq l uA uc) {k:Nat} (hk:vBlk h uA k):k < w.heap.size:=by
 rcases hk with hk | ⟨a,ha,e⟩
 ·rw[hk];exact m.blk.lt
 ·rw[e];exact m.min _ (m.mu a ha)
theorem VM.newU (m:VM w h s ks M R A cq l uA uc) (hk:KeepF (vaBlk uA) w w1) (A':Option Addr) (c':Nat) (l':List (Nat->Int)) (hs:SL w1 23 16 A' l'.length c' (l'.flatMap vkCells)) (hA:∀a,A'=some a->vaBlk uA a.block\/w.heap.size<=a.block) :
  VM (w1.setCell ⟨h,46,none⟩ (.slice A' l'.length c')) h { s with used:=l'.map kArr } l' (fun k=>M k\/vaBlk A' k) R A cq l A' c':=by
 have hb1:Blk w1 h 97 (vArr s.C.arr s.now s.deliver s.next (.slice A l.length cq) s.run s.limit s.expiry (.slice uA ks.length uc) s.dup):=hk.blk m.blk (fun⟨a,ha,e⟩=>m.hu a ha e);have hks:=keep_set w1 h 46 (.slice A' l'.length c');have h1:=hk.size;have h2:=hks.size;have hM:∀k,vaBlk uA k->M k:=fun k ⟨a,ha,e⟩=>by rw[e];exact m.mu a ha
 have hAh:∀a,A'=some a->a.block ≠ h:=fun a ha e=>by
  rcases hA a ha with ⟨a',e1,e2⟩ | h3
  ·exact m.hu a' e1 (by rw[<-e2,e])
  ·have:=m.min _ m.mh;omega
 have hlt:∀a,A'=some a->a.block < w1.heap.size:=fun a ha=>by
  obtain⟨cur,hc⟩:=hs.obj ha
  exact(Array.getElem?_eq_some_iff.1 hc).1
 refine⟨by rw[<-vArr_u s.C.arr_size];exact hb1.set_ 46 _,m.lv,rfl,(m.st.keepF hk (fun a e ⟨a',e',hf⟩=>m.au a a' e e' hf)).keepF hks (fun a e hf=>m.ha a e hf.symm),hs.keepF hks (fun a e hf=>hAh a e hf),m.ris,m.rng,fun e he=>((m.pk e he).keep hk (fun k hf hr=>m.dis k (hM k hf) hr)).keep hks (fun k hf hr=>m.dis k (by rw[hf];exact m.mh) hr),⟨m.ok.now,m.ok.deliver,m.ok.next,m.ok.limit,m.ok.expiry,m.ok.dup⟩,.inl m.mh,fun a ha=>.inl (m.ma a ha),fun a ha=>.inr ⟨a,ha,rfl⟩,fun k hk' hr=>?_,fun k hk'=>?_,fun k hr=>Nat.lt_of_lt_of_le (m.rin k hr) (Nat.le_trans h1 h2)⟩
 ·rcases hk' with hk' | ⟨a,ha,e⟩
  ·exact m.dis k hk' hr
  ·rcases hA a ha with hu | h3
   ·exact m.dis k (by rw[e];exact hM _ hu) hr
   ·have:=m.rin k hr;omega
 ·rcases hk' with hk' | ⟨a,ha,e⟩
  ·have:=m.min k hk';omega
  ·have:=hlt a ha;omega
theorem vrekey_ok (m:VM w h s ks M R A cq l uA uc) (hlu:ks.length<=1000000) (f c:Nat->Int) :
  Calls Tryz.prog 55 #[.pointer (some ⟨h,0,none⟩),.agg (kArr f),.agg (kArr c)] w (VRkO w h s ks M R A cq l uA uc f c):=by
 have HT:=zh m;have HFR:=zh (fun(V:World) (hb:Below w.heap.size w V)=>vfresh_ok (m.below hb) hlu f);have HSK:=zh (k_size f);have HSC:=zh (k_size c);have HOK:=zh (k_one f);have HOC:=zh (k_one c);have HUK:=zh Tryz.underlying23;have HU2:=zh (show(ks++[f]).map kArr=s.used++[kArr f] by rw[List.map_append,m.uv];rfl);have HKL:Hid (vkCells f=(kArr f).toList):=zh rfl;have HUL:=zh hlu;obtain⟨iu,hiu,hiz,his,hib⟩:=infoKeyV;clear hlu m;obtain⟨KF,hKF⟩:∃KF,KF=kArr f:=⟨_,rfl⟩
 obtain⟨KC,hKC⟩:∃KC,KC=kArr c:=⟨_,rfl⟩
 have HKF:=zh hKF;have HKC:=zh hKC;have HRK:Hid (s.rekeyed f c={ s with C:=s.C.keys f c,used:=s.used++[KF] }):=zh (by rw[hKF];rfl);rw[<-hKF]at HFR HSK HOK HU2 HKL ⊢;rw[<-hKC]at HSC HOC ⊢;by_cases hno:hasKey f ks=true
 ·rw[hno]at HFR;have HNO:=zh hno;clear hKF hKC hno;go_enter Tryz.func55,Tryz.ntmps55;go_upto_region 1 with (fail)
  obtain⟨kb,hkb⟩:∃kb,kb=w.heap.size:=⟨_,rfl⟩
  refine wp_let (fun V=>Blk V kb 23 KF/\Below w.heap.size w V) ⟨by rw[hkb];exact(blk_atZ _ _ _ _ rfl).alloc _,((Below.refl _ w).alloc (Nat.le_refl _) _).alloc (by simp) _⟩ ?_;rintro W1 ⟨b1,b3⟩;have B1:=zh b1;have B3:=zh b3;rw[<-hkb];have HKR:=zh (b1.range _ (show KF=KF.toList.toArray by simp));clear b1 b3 hkb;go_wp2_with (first
   | (refine wpList_load_mid rfl _ _ rfl kb 0 rfl KF.toList _ HKR.out HUK.out rfl HSK.out ?_)
   | (go_at_call 54;refine(HFR.out _ B3.out).mono ?_;rintro e w3 ⟨rfl,hb⟩;have B4:=zh hb;clear hb))
  go_ret
  exact .inl ⟨rfl,HNO.out,B3.out.trans (B4.out.mono B3.out.size)⟩
 have hno2:hasKey f ks=false:=by simpa using hno
 rw[hno2]at HFR;have HNO:=zh hno2;clear hKF hKC hno hno2;go_enter Tryz.func55,Tryz.ntmps55;go_upto_region 1 with (fail)
 obtain⟨kb,hkb⟩:∃kb,kb=w.heap.size:=⟨_,rfl⟩
 have HKB:=zh hkb;refine wp_let (fun V=>Blk V kb 23 KF/\Blk V (kb+1) 23 KC/\Below w.heap.size w V) ⟨by rw[hkb];exact(blk_atZ _ _ _ _ rfl).alloc _,by rw[hkb];exact blk_atZ _ _ _ _ (by simp),((Below.refl _ w).alloc (Nat.le_refl _) _).alloc (by simp) _⟩ ?_;rintro W1 ⟨b1,b2,b3⟩;have B1:=zh b1;have B2:=zh b2;have B3:=zh b3;rw[<-hkb];have HKR:=zh (b1.range _ (show KF=KF.toList.toArray by simp));clear b1 b2 b3 hkb;go_upto_region 3 with (first
  | (refine wpList_load_mid rfl _ _ rfl kb 0 rfl KF.toList _ HKR.out HUK.out rfl HSK.out ?_)
  | (go_at_call 54;refine(HFR.out _ B3.out).mono ?_;rintro e w3 ⟨rfl,hb⟩;have B4:=zh hb;clear hb))
 have D1:=zh (B1.out.below B4.out B1.out.lt);have D2:=zh (B2.out.below B4.out B2.out.lt);have D3:=zh (B3.out.trans (B4.out.mono B3.out.size));have T3:=zh (HT.out.below D3.out);obtain⟨un,hun⟩:∃un,un=ks.length:=⟨_,rfl⟩
 have HUN:=zh hun;have hunl:un<=1000000:=by rw[hun];exact HUL.out
 have HKR2:=zh (show ∀W',KeepF (vaBlk uA) w3 W'->W'.rangeAt kb 0 KF.toList from fun W' hW=>((hW.blk D1.out (fun⟨a,ha,e⟩=>by
  have h1:=HT.out.us.lt ha;rw[<-e,HKB.out]at h1
  exact absurd h1 (Nat.lt_irrefl _))).range _ (by simp)))
 have HC:=zh (show ∀W',KeepF (vaBlk uA) w3 W'->W'.cell? ⟨h,46,none⟩=some (.slice uA un uc)/\W'.frozen? ⟨h,46,none⟩=false from fun W' hW=>by
  have hb:=hW.blk T3.out.blk (fun⟨a,ha,e⟩=>T3.out.hu a ha e)
  exact⟨(hb.cell 46).trans (by rw[hun];exact vArr_high s.C.arr_size 7),hb.frozen 46⟩)
 clear hun;refine wp_region_L (L:=10) (S:=fun w'=>KeepF (vaBlk uA) w3 w') (by kernel_rfl) (KeepF.refl.drew) (fun hHeld=>?_);obtain⟨w0,hw0⟩:∃w0,w0=w3.drew:=⟨_,rfl⟩
 rw[<-hw0];rw[<-hw0]at hHeld;have hb0:Below w3.heap.size w3 w0:=by rw[hw0];exact(Below.refl _ _).drew
 clear hw0;refine tkL (i:=0) (oi:=⟨some 11,_,_,_,_,_⟩) (v:=.pointer (some ⟨h,0,none⟩)) rfl (Or.inl ⟨by rfl,fun W hW=>(by rfl)⟩) (by assumption) ?_;refine tkL (i:=1) (oi:=⟨some 12,_,_,_,_,_⟩) (v:=.pointer (some ⟨h,0,none⟩)) rfl (Or.inl ⟨by rfl,fun W hW=>(by rfl)⟩) (by assumption) ?_;refine tkL (i:=2) (oi:=⟨some 13,_,_,_,_,_⟩) (v:=.pointer (some ⟨h,0,none⟩)) rfl (Or.inl ⟨by rfl,fun W hW=>(by go_simp)⟩) (by assumption) ?_;refine tkL (i:=3) (oi:=⟨some 14,_,_,_,_,_⟩) (v:=.pointer (some ⟨h,46,none⟩)) rfl (Or.inl ⟨by rfl,fun W hW=>(by go_simp)⟩) (by assumption) ?_;refine tkL (i:=4) (oi:=⟨some 15,_,_,_,_,_⟩) (v:=.slice uA un uc) rfl (Or.inl ⟨by rfl,fun W hW=>(by obtain⟨x0,x1⟩:=HC.out W hW;go_simp)⟩) (by assumption) ?_;refine' tkL (i:=5) (oi:=⟨some 16,_,_,_,_,_⟩) (v:=_) rfl (yieldsIf_load_mid (by rfl) _ _ rfl kb 0 rfl KF.toList _ (fun w h=>HKR2.out w h) HUK.out rfl HSK.out) (by assumption) ?_;refine wpAnyL_one (i:=6) (o:=⟨some 17,_,_,_,_,_⟩) (by kernel_rfl) rfl (fun K hK=>?_);rw[if_pos (by rfl)];refine wp_vbuild_key _ rfl _ KF f rfl HKF.out ?_;obtain⟨u2,hu2⟩:∃X,X=w0.alloc (.cells KF 23):=⟨_,rfl⟩
 obtain⟨nb,hnb⟩:∃nb,nb=w0.heap.size:=⟨_,rfl⟩
 have hNB:Blk u2 nb 23 KF:=by rw[hu2,hnb];exact Blk.new _ _ _
 have hb3:Below w3.heap.size w3 u2:=by rw[hu2];exact hb0.alloc hb0.size _
 have hE2:KeepF (vaBlk uA) w3 u2:=KeepF.of_below hb3;rw[<-hu2,<-hnb];refine hK.out _ _ hE2 (fun hHeld=>?_);clear hK K hu2 hnb
 try simp only[Act.put,qa,qb,qc]
 refine wpAnyL_one (i:=7) (o:=⟨some 18,_,_,_,_,_⟩) (by kernel_rfl) rfl (fun K hK=>?_);rw[if_pos (by rfl)];refine wp_sl_append _ _ 95 95 rfl u2 23 iu (.agg #[.int .u8 0,.int .u8 0,.int .u8 0,.int .u8 0,.int .u8 0,.int .u8 0,.int .u8 0,.int .u8 0,.int .u8 0,.int .u8 0,.int .u8 0,.int .u8 0,.int .u8 0,.int .u8 0,.int .u8 0,.int .u8 0]) 16 16 Tryz.underlying95 hiu hiz his hib rfl uA un uc (ks.flatMap vkCells) rfl (by rw[HUN.out];exact T3.out.us.next hb3) (.slice (some ⟨nb,0,none⟩) 1 1) rfl 1 KF.toList (Src.ofSlice _ Tryz.underlying95 ⟨nb,0,none⟩ 1 1 _ (by rw[HKF.out];rfl) (fun j u hu=>by
   rw[Addr.add_lit,Nat.zero_add,hNB.cell j,<-Array.getElem?_toList]
   exact hu) (fun u hu=>by have:=HOK.out;rw[Array.all_eq_true']at this;exact this u (by simpa using hu))) (by decide) (by unfold maxLen;omega) (by omega) (fun A9 c9 u3 hs9 hk9 ha9=>?_)
 have hE3:KeepF (vaBlk uA) w3 u3:=hE2.trans hk9 (fun _ _ h=>h);have hlen:(ks++[f]).length=un+1:=by rw[List.length_append,HUN.out];rfl
 have hs9':SL u3 23 16 A9 (ks++[f]).length c9 ((ks++[f]).flatMap vkCells):=by
  rw[hlen,List.flatMap_append];have h1:([f]:List (Nat->Int)).flatMap vkCells=KF.toList:=by rw[<-HKL.out];simp
  rw[h1]
  exact hs9
 have hN:=T3.out.newU hE3 A9 c9 (ks++[f]) hs9' (fun a ha=>by
  rcases ha9 a ha with ⟨a',e1,e2⟩ | h2
  ·exact .inl ⟨a',e1,e2⟩
  ·exact .inr (Nat.le_trans hb3.size h2))
 rw[hlen,HU2.out]at hN;have HAB:=zh (show ∀k,vaBlk A9 k->vaBlk uA k\/w3.heap.size<=k from fun k ⟨a,ha,e⟩=>by
  rcases ha9 a ha with ⟨a',e1,e2⟩ | h2
  ·exact .inl ⟨a',e1,by rw[e,e2]⟩
  ·exact .inr (by rw[e];exact Nat.le_trans hb3.size h2))
 have HN:=zh hN;have HE3:=zh hE3;refine hK.out _ _ hE3 (fun hHeld=>?_);clear hK K hs9 hk9 ha9 hN hs9' hlen
 try simp only[Act.put,qa,qb,qc]
 refine wpAnyL_one (i:=8) (o:=⟨some 19,_,_,_,_,_⟩) (by kernel_rfl) rfl (fun K hK=>?_);rw[if_pos (by rfl)];go_simp;refine hK.out _ _ HE3.out (fun hHeld=>?_);clear hK K
 try simp only[Act.put,qa,qb,qc]
 refine tkL (i:=9) (oi:=⟨some 20,_,_,_,_,_⟩) (v:=.pointer (some ⟨h,46,none⟩)) rfl (Or.inl ⟨by rfl,fun W hW=>(by go_simp)⟩) (by assumption) ?_;refine wpAnyL_last (o:=⟨none,_,_,_,_,_⟩) (by kernel_rfl) (by kernel_rfl) rfl (fun K hK=>?_);rw[if_pos (by rfl)];obtain⟨x0,x1⟩:=HC.out u3 HE3.out;go_simp;clear x0 x1;refine hK.out _ _ ?_;clear hK K hHeld
 try simp only[Act.put]
 have hK5:KeepF (vBlk h uA) w3 (u3.setCell ⟨h,46,none⟩ (.slice A9 (un+1) c9)):=(HE3.out.mono (fun k hk=>.inr hk)).setCell (p:=⟨h,46,none⟩) (.inl rfl) _;generalize u3.setCell ⟨h,46,none⟩ (.slice A9 (un+1) c9)=X at HN hK5 ⊢;have HK5:=zh hK5;have E1:=zh (HK5.out.blk D1.out (fun hk=>by have h1:=HT.out.ulow hk;rw[HKB.out]at h1;exact absurd h1 (Nat.lt_irrefl _)));have E2:=zh (HK5.out.blk D2.out (fun hk=>by have h1:=HT.out.ulow hk;rw[HKB.out]at h1;omega));have hne:¬kb=h:=fun e=>by have h1:=HT.out.blk.lt;rw[<-e,HKB.out]at h1;exact absurd h1 (Nat.lt_irrefl _)
 have hne2:¬kb+1=h:=fun e=>by have h1:=HT.out.blk.lt;rw[<-e,HKB.out]at h1;omega
 have HF1:=zh (show ∀W',KeepF (fun k=>k=h) X W'->W'.rangeAt kb 0 KF.toList from fun W' hW=>(hW.blk E1.out hne).range _ (by simp));have HF2:=zh (show ∀W',KeepF (fun k=>k=h) X W'->W'.rangeAt (kb+1) 0 KC.toList from fun W' hW=>(hW.blk E2.out hne2).range _ (by simp));have HSKF:Hid ((Tryz.prog.info? 23).map (·.size)=some KF.size):=zh (by rw[HKF.out];kernel_rfl);have HSKC:Hid ((Tryz.prog.info? 23).map (·.size)=some KC.size):=zh (by rw[HKC.out];kernel_rfl);clear hK5;go_upto_region 4 with (fail)
 refine wp_region_held_drew (S:=fun w'=>KeepF (fun k=>k=h) X w') (by kernel_rfl) (KeepF.refl.drew) (fun hHeld=>?_);obtain⟨w6,hw6⟩:∃w6,w6=X.drew:=⟨_,rfl⟩
 have hb6:Below X.heap.size X w6:=by rw[hw6];exact(Below.refl _ _).drew
 rw[<-hw6];rw[<-hw6]at hHeld;have hT6:=HN.out.below hb6;clear hw6 hb6;refine tkR (i:=0) (x:=some 21) (v:=.pointer (some ⟨h,0,none⟩)) rfl ?_;refine tkR (i:=1) (x:=some 22) (v:=.pointer (some ⟨h,0,none⟩)) rfl ?_;refine' tkY (i:=2) (x:=some 23) (v:=_) rfl (yieldsIf_load_mid (by rfl) _ _ rfl kb 0 rfl KF.toList _ (fun w h=>HF1.out w h) HUK.out rfl HSK.out) ?_;refine' tkY (i:=3) (x:=some 24) (v:=_) rfl (yieldsIf_load_mid (by rfl) _ _ rfl (kb+1) 0 rfl KC.toList _ (fun w h=>HF2.out w h) HUK.out rfl HSC.out) ?_;refine tkS (i:=4) (x:=some 25) (v:=.pointer (some ⟨h,0,none⟩)) rfl ?_;refine tkS (i:=5) (x:=some 26) (v:=.pointer (some ⟨h,0,none⟩)) rfl ?_;refine tkS (i:=6) (x:=some 27) (v:=.pointer (some ⟨h,2,none⟩)) rfl ?_;refine rdH (i:=7) (x:=none) rfl fun K hK=>?_;refine wp_store_mid _ _ _ rfl h 2 KF rfl rfl (blk_there hT6.blk 2 KF.size (by rw[HKF.out,vArr_size (Cfg.arr_size _)];show 2+16<=48;decide)) HSKF.out HOK.out ?_;have hk1:KeepF (fun k=>k=h) X (w6.setCells h 2 KF.toList):=hHeld.trans (ts_keep (F:=fun k=>k=h) rfl _ _ _) (fun _ _ h=>h);have hB1:=ts_setCells KF.toList 2 w6 _ hT6.blk;obtain⟨v1,hv1⟩:∃vv,vv=w6.setCells h 2 KF.toList:=⟨_,rfl⟩
 rw[<-hv1]at hk1 hB1 ⊢;refine hK.out _ _ hk1 (fun hHeld=>?_);clear hK K hk1 hv1
 try simp only[Act.put]
 refine tkS (i:=8) (x:=some 28) (v:=.pointer (some ⟨h,0,none⟩)) rfl ?_;refine tkS (i:=9) (x:=some 29) (v:=.pointer (some ⟨h,0,none⟩)) rfl ?_;refine tkS (i:=10) (x:=some 30) (v:=.pointer (some ⟨h,18,none⟩)) rfl ?_;refine rdH (i:=11) (x:=none) rfl fun K hK=>?_;refine wp_store_mid _ _ _ rfl h 18 KC rfl rfl (blk_there hB1 18 KC.size (by rw[HKC.out,tsAll_size,vArr_size (Cfg.arr_size _)];show 18+16<=48;decide)) HSKC.out HOC.out ?_;have hk1:KeepF (fun k=>k=h) X (v1.setCells h 18 KC.toList):=hHeld.trans (ts_keep (F:=fun k=>k=h) rfl _ _ _) (fun _ _ h=>h);have hB2:=ts_setCells KC.toList 18 v1 _ hB1;obtain⟨v2,hv1⟩:∃vv,vv=v1.setCells h 18 KC.toList:=⟨_,rfl⟩
 rw[<-hv1]at hk1 hB2 ⊢;refine hK.out _ _ hk1 (fun hHeld=>?_);clear hK K hk1 hv1
 try simp only[Act.put]
 refine wpAnyH_done (by kernel_rfl) ?_ _;rw[HKF.out,HKC.out,vArr_keys]at hB2;have T8:=zh (show VM v2 h (s.rekeyed f c) (ks++[f]) (fun k=>M k\/vaBlk A9 k) R A cq l A9 c9 from by
  rw[HRK.out]
  exact HN.out.put (s':={ ({ s with used:=s.used++[KF] }:RS)with C:=s.C.keys f c }) hHeld hB2 rfl rfl HN.out.rng ⟨HN.out.ok.now,HN.out.ok.deliver,HN.out.ok.next,HN.out.ok.limit,HN.out.ok.expiry,HN.out.ok.dup⟩)
 have HK8:=zh (show KeepF (vBlk h uA) w3 v2 from HK5.out.trans hHeld (fun _ _ e=>.inl e));clear hHeld hB1 hB2 hT6;go_wp2;go_ret;refine .inr ⟨rfl,HNO.out,A9,c9,_,T8.out,fun k hk=>?_,(KeepF.of_below D3.out).trans HK8.out (fun _ _ h=>h)⟩;rcases hk with hk | hk
 ·exact .inl hk
 ·rcases HAB.out k hk with ⟨a,ha,e⟩ | h2
  ·exact .inl (by rw[e];exact HT.out.mu a ha)
  ·exact .inr (Nat.le_trans D3.out.size h2)
end
theorem vexport_ok (h:Nat) (s:RS) (U:List (Nat->Int)) (M R:Nat->Prop) (A:Option Addr) (c:Nat) (l:List SE) (uA:Option Addr) (uc:Nat) (w:World) (m:VM w h s U M R A c l uA uc) :
  Calls Tryz.prog 56 #[.pointer (some ⟨h,0,none⟩)] w fun e w'=>e=.returned (.agg #[.int .u64 s.deliver,.int .u64 s.next,.slice A l.length c])/\Below w.heap.size w w':=by
 obtain⟨n,hn⟩:∃n,n=l.length:=⟨_,rfl⟩
 obtain⟨d,hd⟩:∃d,d=s.deliver:=⟨_,rfl⟩
 obtain⟨nx,hnx⟩:∃nx,nx=s.next:=⟨_,rfl⟩
 rw[<-hn,<-hd,<-hnx];have HC0:=zh (show ∀W,Below w.heap.size w W->W.cell? ⟨h,40,none⟩=some (.int .u64 d)/\W.cell? ⟨h,41,none⟩=some (.int .u64 nx)/\W.cell? ⟨h,42,none⟩=some (.slice A n c)from fun W hW=>by rw[hn,hd,hnx];exact⟨(m.below hW).cd,(m.below hW).cnx,(m.below hW).cq⟩);clear m hn hd hnx;go_enter Tryz.func56,Tryz.ntmps56;go_upto_region 1 with (fail)
 obtain⟨rb,hrb⟩:∃rb,rb=w.heap.size:=⟨_,rfl⟩
 have HRB:=zh hrb;refine wp_let (fun V=>Blk V rb 46 #[.int .u64 0,.int .u64 0,.slice none 0 0]/\Below w.heap.size w V) ⟨by rw[hrb];exact Blk.new _ _ _,(Below.refl _ w).alloc (Nat.le_refl _) _⟩ ?_;rintro V ⟨b1,b2⟩;rw[<-hrb];have B1:=zh b1;have B2:=zh b2;clear b1 b2 hrb;refine wp_region_held_drew (S:=fun w'=>Below w.heap.size w w'/\∃x y z,Blk w' rb 46 #[x,y,z]) (by kernel_rfl) ⟨B2.out.drew,_,_,_,B1.out.drew⟩ (fun hHeld=>?_);obtain⟨u0,hu0⟩:∃u0,u0=V.drew:=⟨_,rfl⟩
 rw[<-hu0];rw[<-hu0]at hHeld;clear hu0;refine tkR (i:=0) (x:=some 3) (v:=.pointer (some ⟨h,0,none⟩)) rfl ?_;refine tkS (i:=1) (x:=some 4) (v:=.pointer (some ⟨h,0,none⟩)) rfl ?_;refine tkS (i:=2) (x:=some 5) (v:=.pointer (some ⟨h,40,none⟩)) rfl ?_;refine tkY (i:=3) (x:=some 6) (v:=.int .u64 d) rfl (.inl ⟨by rfl,fun W hW=>(by have:=(HC0.out W hW.1).1;go_simp)⟩) ?_;refine tkR (i:=4) (x:=some 7) (v:=.pointer (some ⟨h,0,none⟩)) rfl ?_;refine tkS (i:=5) (x:=some 8) (v:=.pointer (some ⟨h,0,none⟩)) rfl ?_;refine tkS (i:=6) (x:=some 9) (v:=.pointer (some ⟨h,41,none⟩)) rfl ?_;refine tkY (i:=7) (x:=some 10) (v:=.int .u64 nx) rfl (.inl ⟨by rfl,fun W hW=>(by have:=(HC0.out W hW.1).2.1;go_simp)⟩) ?_;refine tkR (i:=8) (x:=some 11) (v:=.pointer (some ⟨h,0,none⟩)) rfl ?_;refine tkS (i:=9) (x:=some 12) (v:=.pointer (some ⟨h,0,none⟩)) rfl ?_;refine tkS (i:=10) (x:=some 13) (v:=.pointer (some ⟨h,42,none⟩)) rfl ?_;refine tkY (i:=11) (x:=some 14) (v:=.slice A n c) rfl (.inl ⟨by rfl,fun W hW=>(by have:=(HC0.out W hW.1).2.2;go_simp)⟩) ?_;refine tkS (i:=12) (x:=some 15) (v:=.agg #[.int .u64 d,.int .u64 nx,.slice A n c]) rfl ?_;refine rdH (i:=13) (x:=none) rfl fun K hK=>?_;obtain⟨hH1,q0,q1,q2,hH2⟩:=hHeld;have c0:=hH2.cell 0;have c1:=hH2.cell 1;have c2:=hH2.cell 2;simp only[List.getElem?_toArray,List.getElem?_cons_zero,List.getElem?_cons_succ]at c0 c1 c2;have f0:=hH2.frozen 0;have f1:=hH2.frozen 1;have f2:=hH2.frozen 2;have HH:=zh (And.intro hH1 hH2);clear hH1 hH2;go_simp;clear c0 c1 c2 f0 f1 f2;obtain⟨V1,hV1⟩:∃X,X=((u0.setCell ⟨rb,0,none⟩ (.int .u64 d)).setCell ⟨rb,1,none⟩ (.int .u64 nx)).setCell ⟨rb,2,none⟩ (.slice A n c):=⟨_,rfl⟩
 have hk1:KeepF (fun q=>q=rb) u0 V1:=by rw[hV1];exact(((KeepF.refl (F:=fun q=>q=rb) (w:=u0)).setCell (p:=⟨rb,0,none⟩) rfl _).setCell (p:=⟨rb,1,none⟩) rfl _).setCell (p:=⟨rb,2,none⟩) rfl _
 have hF1:Blk V1 rb 46 #[.int .u64 d,.int .u64 nx,.slice A n c]:=by
  have:=((HH.out.2.set_ 0 (.int .u64 d)).set_ 1 (.int .u64 nx)).set_ 2 (.slice A n c);rw[hV1];simpa using this
 have hE3:Below w.heap.size w V1:=KeepF.below HH.out.1 hk1 (fun q hq=>by rw[hq,HRB.out];exact Nat.le_refl _) HH.out.1.size;rw[<-hV1];have HE3:=zh hE3;have HF1:=zh hF1;refine hK.out _ _ ⟨hE3,_,_,_,hF1⟩ (fun hHeld=>?_);clear hK K hV1 hk1 hHeld
 try simp only[Act.put]
 refine wpAnyH_done (by kernel_rfl) ?_ _;go_wp2;refine bodyPost_ret (v:=.agg #[.int .u64 d,.int .u64 nx,.slice A n c]) ?_ ?_ ?_
 case refine_1=>exact results_cell_row (g:=rb) (t:=46) (fr:=(0,0)) Tryz.results56 _ _ _ _ rfl HF1.out Tryz.underlying46 rfl (by kernel_rfl)
 case refine_2=>rfl
 exact⟨rfl,HE3.out⟩
end Go.Proofs.YtnadmdadcpemnaaGreat
