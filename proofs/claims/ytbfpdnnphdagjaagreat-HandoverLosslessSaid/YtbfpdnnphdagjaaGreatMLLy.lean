import Derived.Test.YtbfpdnnphdagjaaGreatRLy
import Derived.Test.YtbfpdnnphdagjaaGreatMLTy
import Derived.Test.YtbfpdnnphdagjaaGreatMLPy
import Derived.Test.YtbfpdnnphdagjaaGreatMDAy
import Derived.Deep.MidRow
import Derived.Test.YtbfpdnnphdagjaaGreatB1y
set_option maxRecDepth 100000
set_option maxHeartbeats 6400000
set_option linter.unusedVariables false
set_option linter.unusedSimpArgs false
namespace Go.Proofs.YtbfpdnnphdagjaaGreat
open Go
private theorem dK {P:Program} {ops:Array Oper} {Q:Exit->Act->World->Prop} {md:Region.Mode} {S:World->Prop} {L i:Nat} {oi:Oper} {v:Value} {fuel:Nat} {listed l':Array Bool} {a a':Act} {w:World} (hi:ops[i]? = some oi) (hy:YieldsIf P ops S oi v a) (hS:S w)
  (h:bO P md ops Q S L fuel l' a' w) (hl:listed.setIfInBounds i true=l':=by(try simp only[qa,qb,qc]);rfl) (ha:a.put oi.dst v=a':=by(try simp only[Act.put,qa,qb,qc]);rfl) (hL:cW md ops L i=true:=by kernel_rfl) (hs:Region.noSelect ops=true:=by kernel_rfl) (hf:Region.free md ops listed i=true:=by kernel_rfl) (hr:(Region.ready md ops listed).contains i=true:=by kernel_rfl)
  (hQ:∀c a w,Q (.panic c) (a.put oi.dst v) w->Q (.panic c) a w:=by exact fun _ _ _ h=>h):bO P md ops Q S L (fuel+1) listed a w:=by subst hl;subst ha;exact fW hi hL hs hf hr hQ hy hS h
section
variable {P:Program} {ops:Array Oper} {Q:Exit->Act->World->Prop} {md:Region.Mode} {S:World->Prop} {L:Nat}
theorem iP {m m':Nat} {listed:Array Bool} (h:cW md ops m m'=true) (hu:listed.getD m' true=false) (hm:m∈Region.ready md ops listed):False:=by
 obtain⟨_,oj,hoj,hall⟩:=mem_ready.1 hm;refine gQ (L:=m) h hoj (fun e he hb heq=>?_);have h1:=hall e he hb;rw[heq]at h1;rcases Nat.lt_or_ge m' listed.size with h' | h'
 ·simp[h']at hu h1;rw[hu]at h1;cases h1
 ·simp[Array.getElem?_eq_none h']at h1
def xH (md:Region.Mode) (ops:Array Oper) (L i:Nat) (c:List Nat):Bool:=(L :: c).all fun m=>cW md ops m i || c.any fun m'=>cW md ops m m'
theorem me {i:Nat} {oi:Oper} {v:Value} (c:List Nat) (hi:ops[i]? = some oi) (hL:xH md ops L i c=true) (hsel:∀(j:Nat) (o:Oper) cs b,ops[j]? = some o->o.op ≠ .select cs b)
  (hQ:∀c a w,Q (.panic c) (a.put oi.dst v) w->Q (.panic c) a w) :
  ∀(fuel:Nat) (listed:Array Bool) (a:Act) (w:World),
   (∀j oj,ops[j]? = some oj->j ≠ i->listed.getD j true=false->(∀e∈oj.after,Region.binds md e=true->e.on ≠ i)->oi.apart ops oj=true)->
   i∈Region.ready md ops listed->YieldsIf P ops S oi v a->S w->(∀m∈c,listed.getD m true=false)->
   bO P md ops Q S L fuel (listed.setIfInBounds i true) (a.put oi.dst v) w->bO P md ops Q S L (fuel+1) listed a w:=by
 intro fuel
 induction fuel with
 | zero=>
  intro listed a w _ hr hy hS hc H;refine⟨fun h=>(by rw[h]at hr;cases hr),fun j hj=>?_⟩;by_cases hji:j=i
  ·subst hji;exact hy.wpOp hi hS ⟨fun _=>hS,H⟩
  ·have:=ready_mono hj hji;rw[H.1]at this
   cases this
 | succ fuel ih=>
  intro listed a w hfree hr hy hS hc H;refine⟨fun h=>(by rw[h]at hr;cases hr),fun j hj=>?_⟩;by_cases hji:j=i
  ·subst hji;exact hy.wpOp hi hS ⟨fun _=>hS,H⟩
  ·have h1:=H.2 j (ready_mono hj hji);obtain⟨hjun,oj,hoj,hall⟩:=mem_ready.1 hj;have hiu:listed.getD i true=false:=(mem_ready.1 hr).1;have hnot:∀e∈oj.after,Region.binds md e=true->e.on ≠ i:=fun e he hb heq=>by
    have h1:=hall e he hb;have h0:=(mem_ready.1 hr).1;rw[heq]at h1;rcases Nat.lt_or_ge i listed.size with h' | h'
    ·simp[h']at h0 h1;rw[h0]at h1;cases h1
    ·simp[Array.getElem?_eq_none h']at h1
   have hblk:j ∉ L :: c:=fun hm=>by
    have hb:=List.all_eq_true.1 hL j hm;rw[Bool.or_eq_true]at hb;rcases hb with hb | hb
    ·exact iP hb hiu hj
    ·obtain⟨m',hm',hw⟩:=List.any_eq_true.1 hb
     exact iP hw (hc m' hm') hj
   have hjL:j ≠ L:=fun e=>hblk (by rw[e];exact List.mem_cons_self ..);have h2:=wpOp_putIf hoj (hfree j oj hoj hji hjun hnot) (fun cs b=>hsel i oi cs b hi) (fun cs b=>hsel j oj cs b hoj) hQ hy h1;have hfree':∀k ok,ops[k]? = some ok->k ≠ i->(listed.setIfInBounds j true).getD k true=false->
     (∀e∈ok.after,Region.binds md e=true->e.on ≠ i)->oi.apart ops ok=true:=fun k ok hk hki hun hno=>by
    refine hfree k ok hk hki ?_ hno;by_cases hjk:j=k
    ·subst hjk;exact hjun
    ·rw[getD_set_ne true hjk]at hun;exact hun
   refine wpOp_mono (fun a' w' h3=>⟨h3.2.1,ih (listed.setIfInBounds j true) a' w' hfree' (ready_mono hr (Ne.symm hji)) h3.1 (h3.2.1 hjL) (fun m hm=>?_) ?_⟩) h2
   ·have hjm:j ≠ m:=fun e=>hblk (by rw[e];exact List.mem_cons_of_mem _ hm);rw[getD_set_ne true hjm]
    exact hc m hm
   ·rw[Array.setIfInBounds_comm _ _ hji]
    exact h3.2.2
theorem bM {i:Nat} {oi:Oper} {v:Value} {fuel:Nat} {listed:Array Bool} {a:Act} {w:World} (c:List Nat) (hi:ops[i]? = some oi) (hL:xH md ops L i c=true) (hc:c.all (fun m=>!listed.getD m true)=true)
  (hs:Region.noSelect ops=true) (hf:Region.free md ops listed i=true) (hr:(Region.ready md ops listed).contains i=true)
  (hQ:∀c a w,Q (.panic c) (a.put oi.dst v) w->Q (.panic c) a w) (hy:YieldsIf P ops S oi v a) (hS:S w)
  (h:bO P md ops Q S L fuel (listed.setIfInBounds i true) (a.put oi.dst v) w):bO P md ops Q S L (fuel+1) listed a w:=
 me c hi hL (Region.noSelect_spec hs) hQ fuel listed a w (Region.free_spec hi hf) (by simpa using hr) hy hS (fun m hm=>by have:=List.all_eq_true.1 hc m hm;simpa using this) h
end
end Go.Proofs.YtbfpdnnphdagjaaGreat
namespace Go.Proofs.YtbfpdnnphdagjaaGreat
open Go.RowKit
attribute [local go_sem ↓] Go.wp_at_zero Go.wp_at_succ
structure mF (x x':cR) (ln:Nat):Prop where
 cf:x'.cf=x.cf
 q:x'.q=0
 N:x'.N=x.N+x.q
 mono:∀j,x.S j=true->x'.S j=true
 all:ln=0->∀j,x.T j=true->x'.S j=true
structure eQ (x x':cR) (ln k:Nat):Prop where
 cf:x'.cf=x.cf
 sum:x'.N+x'.q=x.N+x.q
 cnt:jL x'.T (x.N+x.q)+k<=x.N+x.q
 mono:∀j,x.S j=true->x'.S j=true
 all:ln=0->∀j,x.T j=true->x'.T j=true\/x'.S j=true
theorem eQ.start (x:cR) (ln:Nat):eQ x x ln 0:=⟨rfl,rfl,yR _ _,fun j h=>h,fun _ j h=>.inl h⟩
theorem eQ.done {x x':cR} {ln k:Nat} (h:eQ x x' ln k) (ht:∀j,x'.T j=false) (s':TS):mF x { x' with ts:=s' } ln:=by
 have hq:x'.q=0:=by
  have:=ht x'.N;unfold cR.T r5 at this;by_cases e:x'.q=0
  ·exact e
  ·simp at this;omega
 refine⟨h.cf,hq,?_,h.mono,fun hl j hj=>?_⟩
 ·have:=h.sum;show x'.N=x.N+x.q;omega
 ·rcases h.all hl j hj with h1 | h1
  ·rw[ht j]at h1;cases h1
  ·exact h1
theorem eQ.lost {x x' x2:cR} {ln k j0:Nat} (h:eQ x x' ln k) (hl:ln ≠ 0) (hcf:x2.cf=x'.cf) (hs:x2.N+x2.q=x'.N+x'.q) (hj:j0 < x2.N) (ht0:x'.T j0=true) (hS:x2.S=x'.S) (hT:∀j,x2.T j=(x'.T j && !decide (j=j0))):eQ x x2 ln (k+1):=by
 have h1:=g6 (m:=x.N+x.q) (T:=x'.T) (T':=x2.T) (k:=j0) (by have:=h.sum;omega) ht0 hT;have h2:=h.cnt
 exact⟨hcf.trans h.cf,hs.trans h.sum,by omega,fun j hj=>by rw[hS];exact h.mono j hj,fun e=>absurd e hl⟩
theorem eQ.got {x x' x2:cR} {ln k j0:Nat} (h:eQ x x' ln k) (hcf:x2.cf=x'.cf) (hs:x2.N+x2.q=x'.N+x'.q) (hj:j0 < x2.N) (ht0:x'.T j0=true) (hS:x2.S=fun j=>x'.S j || decide (j=j0)) (hT:∀j,x2.T j=(x'.T j && !decide (j=j0))):eQ x x2 ln (k+1):=by
 have h1:=g6 (m:=x.N+x.q) (T:=x'.T) (T':=x2.T) (k:=j0) (by have:=h.sum;omega) ht0 hT;have h2:=h.cnt;refine⟨hcf.trans h.cf,hs.trans h.sum,by omega,fun j hj=>by rw[hS];simp[h.mono j hj],fun e j hj=>?_⟩;rw[hS,hT];by_cases e2:j=j0
 ·right;simp[e2]
 ·rcases h.all e j hj with h3 | h3
  ·left;simp[h3,e2]
  ·right;simp[h3]
theorem kH (cf:ax) {n:Nat} (hn:n<=60):bi cf n<=9000:=by
 unfold bi lM
 split<;>omega
def zA (w0 w:World) (b:Nat) (L:cY) (X:Ag):Prop:=an w0 w 8 (bW (L.ag b) 7 X)
def xO (w0:World) (X:Ag) (LA:Option Addr) (ln:Nat) (lz:Nat->Int):Prop:=∀(V:World) (n:Nat) (A:Nat->Ag),an w0 V n A->8<=n->A 7=X->ln ≠ 0->∃lb lo,LA=some ⟨lb,lo,none⟩/\∀j,j < ln->V.cell? ⟨lb,lo+j,none⟩=some (.int .u8 (lz j))
theorem an.to8 {w0 w:World} {n:Nat} {A:Nat->Ag} (h:an w0 w n A) (hn:8<=n) (A':Nat->Ag) (h0:A' 0=A 0:=by rfl) (h1:A' 1=A 1:=by rfl) (h2:A' 2=A 2:=by rfl) (h3:A' 3=A 3:=by rfl) (h4:A' 4=A 4:=by rfl) (h5:A' 5=A 5:=by rfl) (h6:A' 6=A 6:=by rfl) (h7:A' 7=A 7:=by rfl):an w0 w 8 A':=
 (h.less hn).congr (fun j hj=>by
  rcases (by omega:j=0\/j=1\/j=2\/j=3\/j=4\/j=5\/j=6\/j=7)with rfl | rfl | rfl | rfl | rfl | rfl | rfl | rfl
  ·exact h0
  ·exact h1
  ·exact h2
  ·exact h3
  ·exact h4
  ·exact h5
  ·exact h6
  ·exact h7)
theorem pt {pn:Nat->Nat} {z:Nat->Nat->Int} {w0 w:World} {b M:Nat} {L:cY} {X:Ag} (h:zA w0 w b L X) (hp:lQ pn z) {K:Nat} (hd:aG pn z K L.x0 M) (hN:L.x0.N+L.x0.q<=99) (hM:M<=1000000) (LA:Option Addr) (ln lc:Nat) (lz:Nat->Int) (hlm:ln<=maxLen) (hlr:xO w0 X LA ln lz) (hlz:∀j,j < ln->0<=lz j/\lz j < 256) :
  Calls Tryz.prog 9 #[.pointer (some ⟨b,0,none⟩),.int .i64 0,.slice LA ln lc] w fun e w'=>∃x' o' c',e=.returned (.bool true)/\zA w0 w' b { L with x0:=x',o0:=o',co0:=c' } X/\aG pn z K x' (M+200)/\mF L.x0 x' ln:=by
 obtain⟨i0,hi0,hz0,hz1,hz2⟩:=info_parts Tryz.infoSl;have HL0:=zh h;have HD0:=zh hd;have HPK:=zh hp;have HN9:=zh hN;have HM9:=zh hM;have HLR:=zh (And.intro hlr hlz);unfold maxLen at hlm;clear h hd hp hN hM hlr hlz;go_enter Tryz.func9,Tryz.ntmps9;go_wp2;go_loopw [7] (fun v7 wr=>∃(k:Nat) (x':cR) (o':Option Addr) (c':Nat),v7=.int .i64 k/\zA w0 wr b { L with x0:=x',o0:=o',co0:=c' } X/\aG pn z K x' (M+k)/\eQ L.x0 x' ln k) (fun v7 _=>200-(intOf v7).toNat)
 case atStart=>exact⟨0,L.x0,L.o0,L.co0,rfl,HL0.out,HD0.out,eQ.start _ _⟩
 case round=>
  obtain⟨k,x',o',c',rfl,hl,hd,hs⟩:=hrel;have HL:=zh hl;have HD:=zh hd;have HS:=zh hs;have hk9:k<=99:=by have:=hs.cnt;have:=HN9.out;omega
  have hsum:=hs.sum;have HSUM:=zh (show x'.N+x'.q<=99 by have:=HN9.out;omega);have k0:(0:Int)<=(k:Int):=by omega
  have k1:(k:Int) < 200:=by omega
  have hB:ae wr b 39 (cY.arr { L with x0:=x',o0:=o',co0:=c' }):=an.blk (i:=6) hl (by decide) rfl;have c0:wr.cell? ⟨b,0,none⟩=some (.pointer (some ⟨L.t0,0,none⟩)):=hB.cell 0;have hnx:=an.next (i:=0) hl (by decide) rfl hd.t.fine (by rw[hd.t.C];exact hd.cm) (by show x'.ts.P.length<=1000000;have:=hd.t.plen;have:=HSUM.out;omega);clear hl hsum hB hs;rcases hd.next (by have:=HSUM.out;omega)with ⟨ht,s',hs1,hd1⟩ | ⟨kk,x2,hs1,hd2,e1,e2,e3,e4,e5,e6,e7,e8,e9,e10⟩
  ·rw[hs1]at hnx;have HNX:=zh hnx;have HT:=zh ht;have HD1:=zh hd1;clear hnx ht hd1 hs1 hd;go_wp2_with (go_at_call 26;refine(HNX.out).mono ?_;rintro e u1 ⟨B5,c5,rfl,hc5,hF5⟩;have HF5:=zh hF5;clear hc5 hF5);go_ret
   exact⟨{ x' with ts:=s' },o',c',rfl,an.to8 HF5.out (by decide) (bW (cY.ag { L with x0:={ x' with ts:=s' },o0:=o',co0:=c' } b) 7 X),HD1.out.more (by omega),HS.out.done HT.out s'⟩
  ·rw[hs1]at hnx;have HNX:=zh hnx;have HD2:=zh hd2;have HE:=zh (And.intro e1 (And.intro e2 (And.intro e3 (And.intro e4 (And.intro e5 (And.intro e6 (And.intro e7 (And.intro e8 (And.intro e9 e10)))))))));have hcf:x'.cf.keys=x'.cf.keys:=rfl;clear hnx hd2 hs1 hd e1 e2 e3 e4 e5 e6 e7 e8 e9 e10 hcf;obtain⟨pN,hpN⟩:∃q,q=bi x'.cf (pn kk):=⟨_,rfl⟩
   obtain⟨pZ,hpZ⟩:∃q,q=bG x'.cf kk (pn kk) (nf (z kk)):=⟨_,rfl⟩
   rw[<-hpN,<-hpZ]at HNX;have HPN:=zh hpN;have HPZ:=zh hpZ;clear hpN hpZ;go_upto_region 9 with (go_at_call 26;refine(HNX.out).mono ?_;rintro e u1 ⟨B5,c5,rfl,hc5,hF5⟩;have HF5:=zh hF5;have HC5:=zh hc5;clear hc5 hF5)
   have hlow:=HF5.out.low;have hrow:=HLR.out.1 u1 _ _ HF5.out (by decide) rfl;have HRW:=zh hrow;clear hrow;by_cases hlt:k < ln/\(lz k).tmod 2=1
   ·obtain⟨lb,lo,hLA,hlc⟩:=HRW.out (by omega);have hcl:u1.cell? ⟨lb,lo+k,none⟩=some (.int .u8 (lz k)):=hlc k hlt.1;have hk2:(k:Int) < (ln:Int):=by omega
    have hyr:=HLR.out.2 k hlt.1;have HLN:=zh (show ln ≠ 0 by omega);obtain⟨y,hy⟩:=af (lz k)
    have hy0:0<=y:=by rw[hy];exact hyr.1
    have hy1:y < 256:=by rw[hy];exact hyr.2
    have hy2:y.tmod 2=1:=by rw[hy];exact hlt.2
    rw[<-hy]at hcl;subst hLA;clear hlow hlc hlt hy hyr c0;go_wp2;go_roundw
    case rel=>
     obtain⟨e1,e2,e3,e4,e5,e6,e7,e8,e9,e10⟩:=HE.out;have hf:=an.to8 HF5.out (by decide) (bW (cY.ag { L with x0:=x2,o0:=o',co0:=c' } b) 7 X) rfl rfl (by show fP _ x2.rs _ _ x2.vs=fP _ x'.rs _ _ x'.vs;rw[e1,e3]) rfl rfl rfl (by show bX _ _ (cY.arr _)=bX _ _ (cY.arr _);unfold cY.arr;rw[e3])
     exact⟨k+1,x2,o',c',by go_num,hf,HD2.out.more (by omega),HS.out.lost HLN.out e4 e6 e8 e9 e2 e10⟩
    case measure=>simp[intOf];omega
   ·have HLT:=zh hlt;have hB5:=an.blk (i:=6) HF5.out (by decide) rfl;have c3:u1.cell? ⟨b,3,none⟩=some (.pointer (some ⟨L.r0,0,none⟩)):=hB5.cell 3;have hrok:x'.rs.Ok:=by
     obtain⟨W9,R9,sb9,l9,ub9,eb9,h9,_⟩:=an.rx (i:=2) HL.out (by decide) rfl
     exact h9.ok
    obtain⟨x3,LL3,hr1,hr2,hr3,hr4,hr5,hr6,hr7,hr8,hr9⟩:=HD2.out.recv HPK.out (by rw[HE.out.1];exact hrok.limit.2) HE.out.2.2.2.2.2.2.2.1 (by have:=HE.out.2.2.2.2.2.1;have:=HSUM.out;omega);rw[HE.out.1,HE.out.2.2.2.1,<-HPN.out,<-HPZ.out]at hr1;have hrd:=HD2.out.r;rw[HE.out.1]at hrd;have hpk:=HPK.out.n kk;have hrv:=an.recv (i:=2) (n:=8) HF5.out (by decide) rfl rfl c5 (by rw[hrd.C];exact HD2.out.ok) (by rw[hrd.C];exact HD2.out.val) (by rw[hrd.C];exact HD2.out.cm) (by show x'.rs.L.length<=100;have:=hrd.len HD2.out.sub;have:=HE.out.2.2.2.2.2.1;have:=HSUM.out;omega) hrd.run (by show x'.rs.dup < _;have:=HD.out.dup;have:=HM9.out;omega) (by show pN<=9000;rw[HPN.out];exact kH _ hpk.2) HC5.out (fun q _=>by show pZ q < 256;rw[HPZ.out];exact nF HD.out.ok.keyN (fun r hr=>dZ (fun r _=>HPK.out.b kk r) hr) q);rw[hr1]at hrv;have HRV:=zh hrv;have HR:=zh (And.intro hr2 (And.intro hr3 (And.intro hr4 (And.intro hr5 (And.intro hr6 (And.intro hr7 (And.intro hr8 hr9)))))));clear hB5 hrok hr1 hr2 hr3 hr4 hr5 hr6 hr7 hr8 hr9 hrd hpk hrv c0;rcases Nat.lt_or_ge k ln with e | e
    focus
     obtain⟨lb,lo,hLA,hlc⟩:=HRW.out (by omega);have hyr:=HLR.out.2 k e;have hcl:u1.cell? ⟨lb,lo+k,none⟩=some (.int .u8 (lz k)):=hlc k e;have hy2:¬(lz k).tmod 2=1:=fun e2=>hlt ⟨e,e2⟩;have hk2:(k:Int) < (ln:Int):=by omega
     obtain⟨y,hy⟩:=af (lz k)
     have hy0:0<=y:=by rw[hy];exact hyr.1
     have hy1:y < 256:=by rw[hy];exact hyr.2
     rw[<-hy]at hcl hy2;have hy3:(y % 2 == 1)=false:=by rw[Int.tmod_eq_emod_of_nonneg hy0]at hy2;simpa using hy2
     subst hLA;clear hlow hlc hlt hy hyr hy2;go_upto_region 10 with (fail)
     clear hk2 hy0 hy1 hy3 hcl e
    rotate_left
    focus
     have hk2:¬(k:Int) < (ln:Int):=by omega
     clear hlow hlt;go_upto_region 10 with (fail)
     clear hk2 e
    all_goals
     go_upto_region 13 with (go_at_call 27;refine(HRV.out).mono ?_;rintro e u2 ⟨A1,c1,lo,rfl,hlo,hF6⟩;have HLO:=zh hlo;have HF6:=zh hF6;clear hlo hF6)
     have hB6:=an.blk (i:=6) HF6.out (by decide) rfl;have HCO:=zh (show ∀W:World,W.heap[b]? = u2.heap[b]?->W.cell? ⟨b,6,none⟩=some (.slice o' x'.vs.length c')from fun W hW=>(World.cell?_of_block (a:=⟨b,6,none⟩) hW).trans (hB6.cell 6));have HFZ:=zh (show ∀W:World,W.heap[b]? = u2.heap[b]?->W.frozen? ⟨b,6,none⟩=false from fun W hW=>(show ae W b 39 _ from hW.trans hB6).frozen 6);have HBL:=zh hB6.lt;refine gn (L:=13) (S:=fun w'=>w'.heap[b]? = u2.heap[b]?) (by kernel_rfl) rfl (fun hHeld=>?_);obtain⟨u3,hu3⟩:=af u2.drew
     have HF7:=zh (HF6.out.below (w':=u3) (by rw[hu3];exact(Below.refl _ u2).drew));have hs3l:b < u3.heap.size:=by rw[hu3];exact HBL.out
     rw[<-hu3];rw[<-hu3]at hHeld;clear hu3 hB6;obtain⟨xs,hs1,hs2,hs3⟩:=an.push (i:=2) HF7.out (by decide) rfl;have hne:∀a,o'=some a->b ≠ a.block:=fun a ha=>by
      obtain⟨cur,hc⟩:=hs1.obj ha;have hbb:=an.blk (i:=6) HF7.out (by decide) rfl
      exact bN hbb hc (by decide)
     obtain⟨n1,hn1⟩:∃q,q=x'.vs.length:=⟨_,rfl⟩
     obtain⟨n2,hn2⟩:∃q,q=lo.length:=⟨_,rfl⟩
     have hnb:n1<=1000000/\n2<=1000000:=by
      obtain⟨q1,q2,q3,q4,q5,q6,q7,q8⟩:=HR.out;have h1:=congrArg List.length q1;have h2:=q2.ol;have h3:=congrArg List.length HLO.out;rw[List.length_append,HE.out.2.2.1]at h1;rw[List.length_map]at h3;have h4:=q2.r.pre;have h5:x3.d<=x3.N:=by
       by_cases e:x3.d<=x3.N
       ·exact e
       ·have h6:=q2.sub x3.N (h4 x3.N (by omega));omega
      have h7:=HE.out.2.2.2.2.2.1;have h8:=HSUM.out;have h9:x3.N=x2.N:=q5;have h10:lo.length=LL3.length:=h3;omega
     rw[<-hn1]at hs1 hs3 HCO;rw[<-hn2]at hs2 hs3 ⊢;have HNN:=zh (And.intro hn1 hn2);have HNE:=zh hne;have HS3:=zh hs3;clear hn1 hn2 hne hs3;refine dK (i:=0) (oi:=⟨some 60,_,_,_,_,_⟩) (v:=.pointer (some ⟨b,0,none⟩)) rfl (Or.inl ⟨by rfl,fun W hW=>(by rfl)⟩) (by assumption) ?_;refine dK (i:=1) (oi:=⟨some 61,_,_,_,_,_⟩) (v:=.int .i64 0) rfl (Or.inl ⟨by rfl,fun W hW=>(by rfl)⟩) (by assumption) ?_;refine dK (i:=2) (oi:=⟨some 62,_,_,_,_,_⟩) (v:=.pointer (some ⟨b,0,none⟩)) rfl (Or.inl ⟨by rfl,fun W hW=>(by rfl)⟩) (by assumption) ?_;refine dK (i:=3) (oi:=⟨some 63,_,_,_,_,_⟩) (v:=.int .i64 0) rfl (Or.inl ⟨by rfl,fun W hW=>(by rfl)⟩) (by assumption) ?_;refine dK (i:=4) (oi:=⟨some 64,_,_,_,_,_⟩) (v:=.pointer (some ⟨b,0,none⟩)) rfl (Or.inl ⟨by rfl,fun W hW=>(by go_simp)⟩) (by assumption) ?_;refine dK (i:=5) (oi:=⟨some 65,_,_,_,_,_⟩) (v:=.pointer (some ⟨b,6,none⟩)) rfl (Or.inl ⟨by rfl,fun W hW=>(by go_simp)⟩) (by assumption) ?_;refine dK (i:=6) (oi:=⟨some 66,_,_,_,_,_⟩) (v:=.pointer (some ⟨b,6,none⟩)) rfl (Or.inl ⟨by rfl,fun W hW=>(by go_simp)⟩) (by assumption) ?_;refine dK (i:=7) (oi:=⟨some 67,_,_,_,_,_⟩) (v:=.slice o' n1 c') rfl (Or.inl ⟨by rfl,fun W hW=>(by have:=HCO.out W hW;go_simp)⟩) (by assumption) ?_;refine dK (i:=8) (oi:=⟨some 68,_,_,_,_,_⟩) (v:=.slice A1 n2 c1) rfl (Or.inl ⟨by rfl,fun W hW=>(by rfl)⟩) (by assumption) ?_;refine bM [12,11] (i:=10) (oi:=⟨some 70,_,_,_,_,_⟩) (v:=.pointer (some ⟨b,0,none⟩)) rfl (by kernel_rfl) (by kernel_rfl) (by kernel_rfl) (by kernel_rfl) (by kernel_rfl) (fun _ _ _ h=>h) (Or.inl ⟨by rfl,fun W hW=>(by go_simp)⟩) (by assumption) ?_
     try simp only[Act.put,qa,qb,qc]
     refine bM [12] (i:=11) (oi:=⟨some 71,_,_,_,_,_⟩) (v:=.pointer (some ⟨b,6,none⟩)) rfl (by kernel_rfl) (by kernel_rfl) (by kernel_rfl) (by kernel_rfl) (by kernel_rfl) (fun _ _ _ h=>h) (Or.inl ⟨by rfl,fun W hW=>(by go_simp)⟩) (by assumption) ?_
     try simp only[Act.put,qa,qb,qc]
     refine ci (i:=9) (o:=⟨some 69,_,_,_,_,_⟩) (by kernel_rfl) rfl (fun K hK=>?_);rw[if_pos (by rfl)];refine dN _ _ 36 36 rfl u3 41 i0 (.slice none 0 0) 1 24 Tryz.underlying36 hi0 hz0 hz1 hz2 rfl o' n1 c' xs rfl hs1 (.slice A1 n2 c1) rfl n2 (lo.map SE.val) (hs2.srcN Tryz.underlying36 (fun u hu=>by obtain⟨x,_,rfl⟩:=List.mem_map.1 hu;rfl)) (by unfold maxLen;omega) (by omega) (fun o2 c2 u4 hs4 hk4 ha4=>?_);have HF8:=zh (HS3.out o2 c2 u4 hs4 hk4 ha4);have hH:u4.heap[b]? = u2.heap[b]?:=(hk4.block b hs3l (fun⟨a,e,hk⟩=>HNE.out a e hk)).trans hHeld;refine hK.out _ _ hH (fun hHeld=>?_);clear hK K hH hs4 hk4 ha4 hs1 hs2 hs3l
     try simp only[Act.put,qa,qb,qc]
     refine dK (i:=12) (oi:=⟨some 72,_,_,_,_,_⟩) (v:=.pointer (some ⟨b,6,none⟩)) rfl (Or.inl ⟨by rfl,fun W hW=>(by go_simp)⟩) (by assumption) ?_;refine dR (o:=⟨none,_,_,_,_,_⟩) (by kernel_rfl) (by kernel_rfl) rfl (fun K hK=>?_);rw[if_pos (by rfl)];have hc0:=HCO.out u4 hHeld;have hf0:=HFZ.out u4 hHeld;go_simp;refine hK.out _ _ ?_;clear hK K hc0 hf0 hHeld
     try simp only[Act.put]
     have HF9:=zh (an.put (i:=6) HF8.out (by decide) rfl 6 (.slice o2 (n1+n2) c2));obtain⟨u5,hu5⟩:=af (u4.setCell ⟨b,6,none⟩ (.slice o2 (n1+n2) c2))
     rw[<-hu5]at HF9 ⊢;clear hu5;go_wp2;go_roundw
     case rel=>
      obtain⟨e1,e2,e3,e4,e5,e6,e7,e8,e9,e10⟩:=HE.out;obtain⟨q1,q2,q3,q4,q5,q6,q7,q8⟩:=HR.out;have hvs:x3.vs=x'.vs++lo.map (·.v):=by rw[q1,e3,HLO.out]
      have hln:x3.vs.length=n1+n2:=by rw[hvs,List.length_append,List.length_map,HNN.out.1,HNN.out.2]
      have hf:=an.to8 HF9.out (by decide) (bW (cY.ag { L with x0:=x3,o0:=o2,co0:=c2 } b) 7 X) (by show fN _ x3.ts=fN _ x2.ts;rw[q3]) (by show fN _ _=fN _ _;rfl) (by show fP _ x3.rs _ _ x3.vs=fP _ x3.rs _ _ (x'.vs++lo.map (·.v));rw[hvs]) (by show fP _ _ _ _ _=fP _ _ _ _ _;rfl) rfl rfl (by show bX _ _ (cY.arr _)=bX _ _ ((cY.arr _).setIfInBounds 6 _);unfold cY.arr;rw[hln];rfl);have hT:x3.T=x2.T:=q7;refine⟨k+1,x3,o2,c2,by go_num,hf,q2.more (by omega),HS.out.got (q4.trans e4) (by rw[q5,q6];exact e6) (by rw[q5];exact e8) e9 (by rw[q8,e2]) (fun j=>by rw[hT];exact e10 j)⟩
     case measure=>simp[intOf];omega
theorem pf {pn:Nat->Nat} {z:Nat->Nat->Int} {w0 w:World} {b M:Nat} {L:cY} {X:Ag} (h:zA w0 w b L X) (hp:lQ pn z) {K:Nat} (hd:aG pn z K L.x1 M) (hN:L.x1.N+L.x1.q<=99) (hM:M<=1000000) (LA:Option Addr) (ln lc:Nat) (lz:Nat->Int) (hlm:ln<=maxLen) (hlr:xO w0 X LA ln lz) (hlz:∀j,j < ln->0<=lz j/\lz j < 256) :
  Calls Tryz.prog 9 #[.pointer (some ⟨b,0,none⟩),.int .i64 1,.slice LA ln lc] w fun e w'=>∃x' o' c',e=.returned (.bool true)/\zA w0 w' b { L with x1:=x',o1:=o',co1:=c' } X/\aG pn z K x' (M+200)/\mF L.x1 x' ln:=by
 obtain⟨i0,hi0,hz0,hz1,hz2⟩:=info_parts Tryz.infoSl;have HL0:=zh h;have HD0:=zh hd;have HPK:=zh hp;have HN9:=zh hN;have HM9:=zh hM;have HLR:=zh (And.intro hlr hlz);unfold maxLen at hlm;clear h hd hp hN hM hlr hlz;go_enter Tryz.func9,Tryz.ntmps9;go_wp2;go_loopw [7] (fun v7 wr=>∃(k:Nat) (x':cR) (o':Option Addr) (c':Nat),v7=.int .i64 k/\zA w0 wr b { L with x1:=x',o1:=o',co1:=c' } X/\aG pn z K x' (M+k)/\eQ L.x1 x' ln k) (fun v7 _=>200-(intOf v7).toNat)
 case atStart=>exact⟨0,L.x1,L.o1,L.co1,rfl,HL0.out,HD0.out,eQ.start _ _⟩
 case round=>
  obtain⟨k,x',o',c',rfl,hl,hd,hs⟩:=hrel;have HL:=zh hl;have HD:=zh hd;have HS:=zh hs;have hk9:k<=99:=by have:=hs.cnt;have:=HN9.out;omega
  have hsum:=hs.sum;have HSUM:=zh (show x'.N+x'.q<=99 by have:=HN9.out;omega);have k0:(0:Int)<=(k:Int):=by omega
  have k1:(k:Int) < 200:=by omega
  have hB:ae wr b 39 (cY.arr { L with x1:=x',o1:=o',co1:=c' }):=an.blk (i:=6) hl (by decide) rfl;have c0:wr.cell? ⟨b,2,none⟩=some (.pointer (some ⟨L.t1,0,none⟩)):=hB.cell 2;have hnx:=an.next (i:=1) hl (by decide) rfl hd.t.fine (by rw[hd.t.C];exact hd.cm) (by show x'.ts.P.length<=1000000;have:=hd.t.plen;have:=HSUM.out;omega);clear hl hsum hB hs;rcases hd.next (by have:=HSUM.out;omega)with ⟨ht,s',hs1,hd1⟩ | ⟨kk,x2,hs1,hd2,e1,e2,e3,e4,e5,e6,e7,e8,e9,e10⟩
  ·rw[hs1]at hnx;have HNX:=zh hnx;have HT:=zh ht;have HD1:=zh hd1;clear hnx ht hd1 hs1 hd;go_wp2_with (go_at_call 26;refine(HNX.out).mono ?_;rintro e u1 ⟨B5,c5,rfl,hc5,hF5⟩;have HF5:=zh hF5;clear hc5 hF5);go_ret
   exact⟨{ x' with ts:=s' },o',c',rfl,an.to8 HF5.out (by decide) (bW (cY.ag { L with x1:={ x' with ts:=s' },o1:=o',co1:=c' } b) 7 X),HD1.out.more (by omega),HS.out.done HT.out s'⟩
  ·rw[hs1]at hnx;have HNX:=zh hnx;have HD2:=zh hd2;have HE:=zh (And.intro e1 (And.intro e2 (And.intro e3 (And.intro e4 (And.intro e5 (And.intro e6 (And.intro e7 (And.intro e8 (And.intro e9 e10)))))))));have hcf:x'.cf.keys=x'.cf.keys:=rfl;clear hnx hd2 hs1 hd e1 e2 e3 e4 e5 e6 e7 e8 e9 e10 hcf;obtain⟨pN,hpN⟩:∃q,q=bi x'.cf (pn kk):=⟨_,rfl⟩
   obtain⟨pZ,hpZ⟩:∃q,q=bG x'.cf kk (pn kk) (nf (z kk)):=⟨_,rfl⟩
   rw[<-hpN,<-hpZ]at HNX;have HPN:=zh hpN;have HPZ:=zh hpZ;clear hpN hpZ;go_upto_region 9 with (go_at_call 26;refine(HNX.out).mono ?_;rintro e u1 ⟨B5,c5,rfl,hc5,hF5⟩;have HF5:=zh hF5;have HC5:=zh hc5;clear hc5 hF5)
   have hlow:=HF5.out.low;have hrow:=HLR.out.1 u1 _ _ HF5.out (by decide) rfl;have HRW:=zh hrow;clear hrow;by_cases hlt:k < ln/\(lz k).tmod 2=1
   ·obtain⟨lb,lo,hLA,hlc⟩:=HRW.out (by omega);have hcl:u1.cell? ⟨lb,lo+k,none⟩=some (.int .u8 (lz k)):=hlc k hlt.1;have hk2:(k:Int) < (ln:Int):=by omega
    have hyr:=HLR.out.2 k hlt.1;have HLN:=zh (show ln ≠ 0 by omega);obtain⟨y,hy⟩:=af (lz k)
    have hy0:0<=y:=by rw[hy];exact hyr.1
    have hy1:y < 256:=by rw[hy];exact hyr.2
    have hy2:y.tmod 2=1:=by rw[hy];exact hlt.2
    rw[<-hy]at hcl;subst hLA;clear hlow hlc hlt hy hyr c0;go_wp2;go_roundw
    case rel=>
     obtain⟨e1,e2,e3,e4,e5,e6,e7,e8,e9,e10⟩:=HE.out;have hf:=an.to8 HF5.out (by decide) (bW (cY.ag { L with x1:=x2,o1:=o',co1:=c' } b) 7 X) rfl rfl rfl (by show fP _ x2.rs _ _ x2.vs=fP _ x'.rs _ _ x'.vs;rw[e1,e3]) rfl rfl (by show bX _ _ (cY.arr _)=bX _ _ (cY.arr _);unfold cY.arr;rw[e3])
     exact⟨k+1,x2,o',c',by go_num,hf,HD2.out.more (by omega),HS.out.lost HLN.out e4 e6 e8 e9 e2 e10⟩
    case measure=>simp[intOf];omega
   ·have HLT:=zh hlt;have hB5:=an.blk (i:=6) HF5.out (by decide) rfl;have c3:u1.cell? ⟨b,1,none⟩=some (.pointer (some ⟨L.r1,0,none⟩)):=hB5.cell 1;have hrok:x'.rs.Ok:=by
     obtain⟨W9,R9,sb9,l9,ub9,eb9,h9,_⟩:=an.rx (i:=3) HL.out (by decide) rfl
     exact h9.ok
    obtain⟨x3,LL3,hr1,hr2,hr3,hr4,hr5,hr6,hr7,hr8,hr9⟩:=HD2.out.recv HPK.out (by rw[HE.out.1];exact hrok.limit.2) HE.out.2.2.2.2.2.2.2.1 (by have:=HE.out.2.2.2.2.2.1;have:=HSUM.out;omega);rw[HE.out.1,HE.out.2.2.2.1,<-HPN.out,<-HPZ.out]at hr1;have hrd:=HD2.out.r;rw[HE.out.1]at hrd;have hpk:=HPK.out.n kk;have hrv:=an.recv (i:=3) (n:=8) HF5.out (by decide) rfl rfl c5 (by rw[hrd.C];exact HD2.out.ok) (by rw[hrd.C];exact HD2.out.val) (by rw[hrd.C];exact HD2.out.cm) (by show x'.rs.L.length<=100;have:=hrd.len HD2.out.sub;have:=HE.out.2.2.2.2.2.1;have:=HSUM.out;omega) hrd.run (by show x'.rs.dup < _;have:=HD.out.dup;have:=HM9.out;omega) (by show pN<=9000;rw[HPN.out];exact kH _ hpk.2) HC5.out (fun q _=>by show pZ q < 256;rw[HPZ.out];exact nF HD.out.ok.keyN (fun r hr=>dZ (fun r _=>HPK.out.b kk r) hr) q);rw[hr1]at hrv;have HRV:=zh hrv;have HR:=zh (And.intro hr2 (And.intro hr3 (And.intro hr4 (And.intro hr5 (And.intro hr6 (And.intro hr7 (And.intro hr8 hr9)))))));clear hB5 hrok hr1 hr2 hr3 hr4 hr5 hr6 hr7 hr8 hr9 hrd hpk hrv c0;rcases Nat.lt_or_ge k ln with e | e
    focus
     obtain⟨lb,lo,hLA,hlc⟩:=HRW.out (by omega);have hyr:=HLR.out.2 k e;have hcl:u1.cell? ⟨lb,lo+k,none⟩=some (.int .u8 (lz k)):=hlc k e;have hy2:¬(lz k).tmod 2=1:=fun e2=>hlt ⟨e,e2⟩;have hk2:(k:Int) < (ln:Int):=by omega
     obtain⟨y,hy⟩:=af (lz k)
     have hy0:0<=y:=by rw[hy];exact hyr.1
     have hy1:y < 256:=by rw[hy];exact hyr.2
     rw[<-hy]at hcl hy2;have hy3:(y % 2 == 1)=false:=by rw[Int.tmod_eq_emod_of_nonneg hy0]at hy2;simpa using hy2
     subst hLA;clear hlow hlc hlt hy hyr hy2;go_upto_region 10 with (fail)
     clear hk2 hy0 hy1 hy3 hcl e
    rotate_left
    focus
     have hk2:¬(k:Int) < (ln:Int):=by omega
     clear hlow hlt;go_upto_region 10 with (fail)
     clear hk2 e
    all_goals
     go_upto_region 13 with (go_at_call 27;refine(HRV.out).mono ?_;rintro e u2 ⟨A1,c1,lo,rfl,hlo,hF6⟩;have HLO:=zh hlo;have HF6:=zh hF6;clear hlo hF6)
     have hB6:=an.blk (i:=6) HF6.out (by decide) rfl;have HCO:=zh (show ∀W:World,W.heap[b]? = u2.heap[b]?->W.cell? ⟨b,7,none⟩=some (.slice o' x'.vs.length c')from fun W hW=>(World.cell?_of_block (a:=⟨b,7,none⟩) hW).trans (hB6.cell 7));have HFZ:=zh (show ∀W:World,W.heap[b]? = u2.heap[b]?->W.frozen? ⟨b,7,none⟩=false from fun W hW=>(show ae W b 39 _ from hW.trans hB6).frozen 7);have HBL:=zh hB6.lt;refine gn (L:=13) (S:=fun w'=>w'.heap[b]? = u2.heap[b]?) (by kernel_rfl) rfl (fun hHeld=>?_);obtain⟨u3,hu3⟩:=af u2.drew
     have HF7:=zh (HF6.out.below (w':=u3) (by rw[hu3];exact(Below.refl _ u2).drew));have hs3l:b < u3.heap.size:=by rw[hu3];exact HBL.out
     rw[<-hu3];rw[<-hu3]at hHeld;clear hu3 hB6;obtain⟨xs,hs1,hs2,hs3⟩:=an.push (i:=3) HF7.out (by decide) rfl;have hne:∀a,o'=some a->b ≠ a.block:=fun a ha=>by
      obtain⟨cur,hc⟩:=hs1.obj ha;have hbb:=an.blk (i:=6) HF7.out (by decide) rfl
      exact bN hbb hc (by decide)
     obtain⟨n1,hn1⟩:∃q,q=x'.vs.length:=⟨_,rfl⟩
     obtain⟨n2,hn2⟩:∃q,q=lo.length:=⟨_,rfl⟩
     have hnb:n1<=1000000/\n2<=1000000:=by
      obtain⟨q1,q2,q3,q4,q5,q6,q7,q8⟩:=HR.out;have h1:=congrArg List.length q1;have h2:=q2.ol;have h3:=congrArg List.length HLO.out;rw[List.length_append,HE.out.2.2.1]at h1;rw[List.length_map]at h3;have h4:=q2.r.pre;have h5:x3.d<=x3.N:=by
       by_cases e:x3.d<=x3.N
       ·exact e
       ·have h6:=q2.sub x3.N (h4 x3.N (by omega));omega
      have h7:=HE.out.2.2.2.2.2.1;have h8:=HSUM.out;have h9:x3.N=x2.N:=q5;have h10:lo.length=LL3.length:=h3;omega
     rw[<-hn1]at hs1 hs3 HCO;rw[<-hn2]at hs2 hs3 ⊢;have HNN:=zh (And.intro hn1 hn2);have HNE:=zh hne;have HS3:=zh hs3;clear hn1 hn2 hne hs3;refine dK (i:=0) (oi:=⟨some 60,_,_,_,_,_⟩) (v:=.pointer (some ⟨b,0,none⟩)) rfl (Or.inl ⟨by rfl,fun W hW=>(by rfl)⟩) (by assumption) ?_;refine dK (i:=1) (oi:=⟨some 61,_,_,_,_,_⟩) (v:=.int .i64 1) rfl (Or.inl ⟨by rfl,fun W hW=>(by rfl)⟩) (by assumption) ?_;refine dK (i:=2) (oi:=⟨some 62,_,_,_,_,_⟩) (v:=.pointer (some ⟨b,0,none⟩)) rfl (Or.inl ⟨by rfl,fun W hW=>(by rfl)⟩) (by assumption) ?_;refine dK (i:=3) (oi:=⟨some 63,_,_,_,_,_⟩) (v:=.int .i64 1) rfl (Or.inl ⟨by rfl,fun W hW=>(by rfl)⟩) (by assumption) ?_;refine dK (i:=4) (oi:=⟨some 64,_,_,_,_,_⟩) (v:=.pointer (some ⟨b,0,none⟩)) rfl (Or.inl ⟨by rfl,fun W hW=>(by go_simp)⟩) (by assumption) ?_;refine dK (i:=5) (oi:=⟨some 65,_,_,_,_,_⟩) (v:=.pointer (some ⟨b,6,none⟩)) rfl (Or.inl ⟨by rfl,fun W hW=>(by go_simp)⟩) (by assumption) ?_;refine dK (i:=6) (oi:=⟨some 66,_,_,_,_,_⟩) (v:=.pointer (some ⟨b,7,none⟩)) rfl (Or.inl ⟨by rfl,fun W hW=>(by go_simp)⟩) (by assumption) ?_;refine dK (i:=7) (oi:=⟨some 67,_,_,_,_,_⟩) (v:=.slice o' n1 c') rfl (Or.inl ⟨by rfl,fun W hW=>(by have:=HCO.out W hW;go_simp)⟩) (by assumption) ?_;refine dK (i:=8) (oi:=⟨some 68,_,_,_,_,_⟩) (v:=.slice A1 n2 c1) rfl (Or.inl ⟨by rfl,fun W hW=>(by rfl)⟩) (by assumption) ?_;refine bM [12,11] (i:=10) (oi:=⟨some 70,_,_,_,_,_⟩) (v:=.pointer (some ⟨b,0,none⟩)) rfl (by kernel_rfl) (by kernel_rfl) (by kernel_rfl) (by kernel_rfl) (by kernel_rfl) (fun _ _ _ h=>h) (Or.inl ⟨by rfl,fun W hW=>(by go_simp)⟩) (by assumption) ?_
     try simp only[Act.put,qa,qb,qc]
     refine bM [12] (i:=11) (oi:=⟨some 71,_,_,_,_,_⟩) (v:=.pointer (some ⟨b,6,none⟩)) rfl (by kernel_rfl) (by kernel_rfl) (by kernel_rfl) (by kernel_rfl) (by kernel_rfl) (fun _ _ _ h=>h) (Or.inl ⟨by rfl,fun W hW=>(by go_simp)⟩) (by assumption) ?_
     try simp only[Act.put,qa,qb,qc]
     refine ci (i:=9) (o:=⟨some 69,_,_,_,_,_⟩) (by kernel_rfl) rfl (fun K hK=>?_);rw[if_pos (by rfl)];refine dN _ _ 36 36 rfl u3 41 i0 (.slice none 0 0) 1 24 Tryz.underlying36 hi0 hz0 hz1 hz2 rfl o' n1 c' xs rfl hs1 (.slice A1 n2 c1) rfl n2 (lo.map SE.val) (hs2.srcN Tryz.underlying36 (fun u hu=>by obtain⟨x,_,rfl⟩:=List.mem_map.1 hu;rfl)) (by unfold maxLen;omega) (by omega) (fun o2 c2 u4 hs4 hk4 ha4=>?_);have HF8:=zh (HS3.out o2 c2 u4 hs4 hk4 ha4);have hH:u4.heap[b]? = u2.heap[b]?:=(hk4.block b hs3l (fun⟨a,e,hk⟩=>HNE.out a e hk)).trans hHeld;refine hK.out _ _ hH (fun hHeld=>?_);clear hK K hH hs4 hk4 ha4 hs1 hs2 hs3l
     try simp only[Act.put,qa,qb,qc]
     refine dK (i:=12) (oi:=⟨some 72,_,_,_,_,_⟩) (v:=.pointer (some ⟨b,7,none⟩)) rfl (Or.inl ⟨by rfl,fun W hW=>(by go_simp)⟩) (by assumption) ?_;refine dR (o:=⟨none,_,_,_,_,_⟩) (by kernel_rfl) (by kernel_rfl) rfl (fun K hK=>?_);rw[if_pos (by rfl)];have hc0:=HCO.out u4 hHeld;have hf0:=HFZ.out u4 hHeld;go_simp;refine hK.out _ _ ?_;clear hK K hc0 hf0 hHeld
     try simp only[Act.put]
     have HF9:=zh (an.put (i:=6) HF8.out (by decide) rfl 7 (.slice o2 (n1+n2) c2));obtain⟨u5,hu5⟩:=af (u4.setCell ⟨b,7,none⟩ (.slice o2 (n1+n2) c2))
     rw[<-hu5]at HF9 ⊢;clear hu5;go_wp2;go_roundw
     case rel=>
      obtain⟨e1,e2,e3,e4,e5,e6,e7,e8,e9,e10⟩:=HE.out;obtain⟨q1,q2,q3,q4,q5,q6,q7,q8⟩:=HR.out;have hvs:x3.vs=x'.vs++lo.map (·.v):=by rw[q1,e3,HLO.out]
      have hln:x3.vs.length=n1+n2:=by rw[hvs,List.length_append,List.length_map,HNN.out.1,HNN.out.2]
      have hf:=an.to8 HF9.out (by decide) (bW (cY.ag { L with x1:=x3,o1:=o2,co1:=c2 } b) 7 X) (by show fN _ _=fN _ _;rfl) (by show fN _ x3.ts=fN _ x2.ts;rw[q3]) (by show fP _ _ _ _ _=fP _ _ _ _ _;rfl) (by show fP _ x3.rs _ _ x3.vs=fP _ x3.rs _ _ (x'.vs++lo.map (·.v));rw[hvs]) rfl rfl (by show bX _ _ (cY.arr _)=bX _ _ ((cY.arr _).setIfInBounds 7 _);unfold cY.arr;rw[hln];rfl);have hT:x3.T=x2.T:=q7;refine⟨k+1,x3,o2,c2,by go_num,hf,q2.more (by omega),HS.out.got (q4.trans e4) (by rw[q5,q6];exact e6) (by rw[q5];exact e8) e9 (by rw[q8,e2]) (fun j=>by rw[hT];exact e10 j)⟩
     case measure=>simp[intOf];omega
theorem xe (m:Nat):aj (aY m)=#[.int .u8 ((m % 256:Nat):Int),.int .u8 ((m / 256 % 256:Nat):Int),.int .u8 99,.int .u8 0,.int .u8 0,.int .u8 0,.int .u8 0,.int .u8 0,.int .u8 0,.int .u8 0,.int .u8 0,.int .u8 0,.int .u8 0,.int .u8 0,.int .u8 0,.int .u8 0]:=rfl
theorem xr (f g:Nat->Int):bI (aj f) 0 (aj g).toList=aj g:=by
 have h16:(aj g).toList.length=16:=rfl;have h17:(aj f).size=16:=rfl;have h18:(aj g).size=16:=rfl;apply Array.ext_getElem?;intro j;by_cases hj:j < 16
 ·have:=bH (aj g).toList 0 (aj f) j (by omega) (by omega);rw[Nat.zero_add]at this;rw[this,Array.getElem?_toList]
 ·rw[Array.getElem?_eq_none (by rw[aM];omega),Array.getElem?_eq_none (by omega)]
theorem sJ (b:Nat) (arr:Array Value) (m:Nat) (hm:m < 60000) (h8:arr[8]? = some (.int .i64 (m:Int))) (w:World) (hB:ae w b 39 arr) :
  Calls Tryz.prog 12 #[.pointer (some ⟨b,0,none⟩)] w fun e w'=>e=.returned (.agg (aj (aY (m+1))))/\ae w' b 39 (arr.setIfInBounds 8 (.int .i64 ((m+1:Nat):Int)))/\aa (fun k=>k=b) w w':=by
 have HB0:=zh hB;have HKK:=zh (xe (m+1));obtain⟨x0,hx0⟩:∃x:Int,x=(((m+1) % 256:Nat):Int):=⟨_,rfl⟩
 obtain⟨x1,hx1⟩:∃x:Int,x=(((m+1) / 256 % 256:Nat):Int):=⟨_,rfl⟩
 rw[<-hx0,<-hx1]at HKK;obtain⟨K,hK⟩:∃K:Int,K=((m+1:Nat):Int):=⟨_,rfl⟩
 obtain⟨q,hq⟩:∃q:Int,q=(((m+1) / 256:Nat):Int):=⟨_,rfl⟩
 have hd1:K.tdiv 256=q:=by
  rw[hK,hq,Int.tdiv_eq_ediv_of_nonneg (by omega)];omega
 have hw0:IntKind.u8.wrap K=x0:=by rw[hK,hx0];show(((m+1:Nat):Int)) % 256=_;omega
 have hw1:IntKind.u8.wrap q=x1:=by rw[hq,hx1];show((((m+1) / 256:Nat):Int)) % 256=_;omega
 have hKr:0<=K/\K<=60000:=by omega
 have hqr:0<=q/\q<=60000:=by omega
 have hmK:(m:Int)+1=K:=by rw[hK];omega
 have m0:(0:Int)<=(m:Int):=by omega
 have m9:(m:Int) < 60000:=by omega
 have c8:w.cell? ⟨b,8,none⟩=some (.int .i64 (m:Int)):=(hB.cell 8).trans h8;have HC8:=zh h8;have f8:=hB.frozen 8;have hbl:=hB.lt;have HK2:=zh hK;have HMK:=zh hmK;have hqw:IntKind.i64.wrap q=q:=by
  simp[IntKind.wrap,IntKind.bits,IntKind.signed];omega
 have HQW:=zh hqw;have HDV:=zh (And.intro hd1 (And.intro hw0 (And.intro hw1 (And.intro hKr hqr))));have HBL:=zh hbl;clear hqw hB h8 hx0 hx1 hK hq hmK hd1 hw0 hw1 hKr hqr hm hbl;rw[<-HK2.out];go_enter Tryz.func12,Tryz.ntmps12;go_upto_region 1 with (fail)
 obtain⟨kb,hkb⟩:=af w.heap.size
 have hkne:¬b=kb:=by have:=HBL.out;omega
 refine ah (fun V=>ae V kb 23 (aj (fun _=>0))/\Below w.heap.size w V) ⟨by rw[hkb];exact ae.new _ _ _,(Below.refl _ w).alloc ay _⟩ ?_;rintro V ⟨b1,b2⟩;rw[<-hkb];have HVB:=zh (HB0.out.below b2 HBL.out);have HVK:=zh b1;have HVV:=zh b2;have HNE:=zh hkne;have HKB:=zh (Nat.le_of_eq hkb.symm);clear b1 b2 hkb hkne c8 f8;have c8:V.cell? ⟨b,8,none⟩=some (.int .i64 (m:Int)):=by
  rw[HVB.out.cell 8];exact HC8.out
 have f8:=HVB.out.frozen 8;have hmK:=HMK.out;go_upto_region 2 with (fail)
 clear c8 f8 hmK;refine ah (fun V2=>ae V2 b 39 (arr.setIfInBounds 8 (.int .i64 K))/\ae V2 kb 23 (aj (fun _=>0))/\aa (fun k=>k=b) V V2) ⟨HVB.out.set_ 8 _,HVK.out.far (p:=⟨b,8,none⟩) (by show ¬kb=b;exact fun e=>HNE.out e.symm) _,aC V b 8 _⟩ ?_;rintro V2 ⟨b1,b2,b3⟩;have HB2:=zh b1;have HK22:=zh b2;have HKE:=zh b3;have HSZ:Hid ((Tryz.prog.info? 23).map (·.size)=some (aj (aY (m+1))).size):=zh (by kernel_rfl);have HON:Hid ((aj (aY (m+1))).all (·.oneCell')=true):=zh (lG _);have HUK:=zh Tryz.underlying23;have h88:(arr.setIfInBounds 8 (.int .i64 K))[8]? = some (.int .i64 K):=by
  have hsz:8 < arr.size:=(Array.getElem?_eq_some_iff.1 HC8.out).1;rw[Array.getElem?_setIfInBounds_self_of_lt hsz]
 have HCK:=zh (show ∀W:World,W.heap[b]? = V2.heap[b]?->W.cell? ⟨b,8,none⟩=some (.int .i64 K)from fun W hW=>(World.cell?_of_block (a:=⟨b,8,none⟩) hW).trans ((b1.cell 8).trans h88));clear b1 b2 b3 h88 m0 m9;obtain⟨KA,hKA⟩:=af (aj (aY (m+1)))
 have hlit:(Value.agg KA)=.agg #[.int .u8 x0,.int .u8 x1,.int .u8 99,.int .u8 0,.int .u8 0,.int .u8 0,.int .u8 0,.int .u8 0,.int .u8 0,.int .u8 0,.int .u8 0,.int .u8 0,.int .u8 0,.int .u8 0,.int .u8 0,.int .u8 0]:=by rw[hKA,HKK.out]
 have HLIT:=zh hlit;have HKA:=zh hKA;rw[<-hKA]at HSZ HON;clear hKA hlit;refine wp_region_held_drew (S:=fun w'=>w'.heap[b]? = V2.heap[b]?) (by kernel_rfl) rfl (fun hHeld=>?_);obtain⟨u0,hu0⟩:=af V2.drew
 have hT0:ae u0 kb 23 (aj (fun _=>0)):=by rw[hu0];exact HK22.out
 have hB0:ae u0 b 39 (arr.setIfInBounds 8 (.int .i64 K)):=by rw[hu0];exact HB2.out
 have hk0:aa (fun k=>k=b) V u0:=by rw[hu0];exact HKE.out.drew
 rw[<-hu0];rw[<-hu0]at hHeld;clear hu0;refine ba (i:=0) (x:=some 10) (v:=.pointer (some ⟨b,0,none⟩)) rfl ?_;refine az (i:=1) (x:=some 11) (v:=.pointer (some ⟨b,0,none⟩)) rfl ?_;refine az (i:=2) (x:=some 12) (v:=.pointer (some ⟨b,8,none⟩)) rfl ?_;refine bE (i:=3) (x:=some 13) (v:=.int .i64 K) rfl (.inl ⟨by rfl,fun W hW=>(by have:=HCK.out W hW;go_simp)⟩) ?_;refine bE (i:=4) (x:=some 14) (v:=.int .u8 x0) rfl (.inl ⟨by rfl,fun W hW=>(by have h1:=HDV.out;have h2:=h1.2.1;go_simp)⟩) ?_;refine ba (i:=5) (x:=some 15) (v:=.pointer (some ⟨b,0,none⟩)) rfl ?_;refine az (i:=6) (x:=some 16) (v:=.pointer (some ⟨b,0,none⟩)) rfl ?_;refine az (i:=7) (x:=some 17) (v:=.pointer (some ⟨b,8,none⟩)) rfl ?_;refine bE (i:=8) (x:=some 18) (v:=.int .i64 K) rfl (.inl ⟨by rfl,fun W hW=>(by have:=HCK.out W hW;go_simp)⟩) ?_;refine bE (i:=9) (x:=some 19) (v:=.int .i64 q) rfl (.inl ⟨by rfl,fun W hW=>(by obtain⟨h1,h2,h3,h4,h5⟩:=HDV.out;have h6:=HQW.out;go_simp)⟩) ?_;refine bE (i:=10) (x:=some 20) (v:=.int .u8 x1) rfl (.inl ⟨by rfl,fun W hW=>(by have h1:=HDV.out;have h2:=h1.2.2.1;go_simp)⟩) ?_;refine bE (i:=11) (x:=some 21) (v:=.agg KA) rfl (.inl ⟨by rfl,fun W hW=>(by rw[HLIT.out];go_simp)⟩) ?_;refine wpAnyH_ready (rs:=[12]) (by kernel_rfl) (by simp) ?_;refine AllReadyH.cons (o:=⟨none,_,_,_,_,_⟩) rfl (fun K' hK'=>?_) AllReadyH.nil;rw[if_pos (by rfl)];refine wp_store_mid _ _ _ rfl kb 0 KA rfl rfl (aJ hT0 0 KA.size (by rw[HKA.out];exact Nat.le_refl _)) HSZ.out HON.out ?_;have hk1:aa (fun k=>k=b) w (u0.setCells kb 0 KA.toList):=((aa.of_below HVV.out).trans hk0 (fun _ _ h=>h)).trans (bP (F:=fun k=>k=kb) rfl KA.toList 0 u0) (fun q hq e=>by have:=HKB.out;omega);have hT1:=aP KA.toList 0 u0 _ hT0;have hB1:ae (u0.setCells kb 0 KA.toList) b 39 (arr.setIfInBounds 8 (.int .i64 K)):=(bP (F:=fun k=>k=kb) rfl KA.toList 0 u0).blk hB0 (fun e=>HNE.out e);have hh1:(u0.setCells kb 0 KA.toList).heap[b]? = V2.heap[b]?:=hB1.trans HB2.out.symm;have hT2:ae (u0.setCells kb 0 KA.toList) kb 23 KA:=by
  have e:bI (aj (fun _=>0)) 0 KA.toList=KA:=by rw[HKA.out];exact xr _ _
  have h:=hT1;rw[e]at h
  exact h
 obtain⟨u1,hu1⟩:=af (u0.setCells kb 0 KA.toList)
 rw[<-hu1]at hk1 hB1 hh1 hT2 ⊢;refine hK'.out _ _ hh1 (fun hHeld=>?_);clear hK' K' hT0 hB0 hk0 hT1 hh1 hu1
 try simp only[Act.put]
 refine wpAnyH_done (by kernel_rfl) ?_ _;clear hHeld;have HK1:=zh hk1;have HB1:=zh hB1;have HT2:=zh hT2;clear hk1 hB1 hT2;go_wp2;have HSL:Hid ((Tryz.prog.info? 23).map (·.size)=some KA.size):=HSZ;refine bodyPost_ret (v:=.agg KA) (results_cell_row (g:=kb) (t:=23) (fr:=(0,0)) Tryz.results12 _ _ KA _ rfl HT2.out HUK.out rfl HSL.out) rfl ⟨by rw[HKA.out],HB1.out,HK1.out⟩
end Go.Proofs.YtbfpdnnphdagjaaGreat
