import Derived.Test.YtiiojpnckbglcaaGreatMEEs
import Derived.StillTailTactics
import Derived.Deep.OwnRows
import Derived.Defers
import Derived.Recover
set_option maxRecDepth 100000
set_option maxHeartbeats 3200000
set_option linter.unusedVariables false
set_option linter.unusedSimpArgs false
namespace Go.Proofs.YtiiojpnckbglcaaGreat
open Go.RowKit
def ef (z:Nat->Int) (p:Nat):Nat->Nat
 | 0=>0
 | k+1=>2*ef z p k+(if bO z (p+k) then 1 else 0)
theorem jG (z:Nat->Int) (p:Nat):∀k,ef z p k < 2 ^ k
 | 0=>by simp[ef]
 | k+1=>by
  have:=jG z p k;unfold ef;rw[Nat.pow_succ]
  split<;>omega
theorem xN (v y:Nat) (hv:v < 4294967296) (hy:y < 2):bits BinOp.or .u64 ((v:Int)*2) (y:Int)=((2*v+y:Nat):Int):=by
 have e:((v:Int)*2)=((v*2 ^ 1:Nat):Int):=by simp
 rw[e,u64_or_nat _ _ (by omega) (by omega),eQ v y 1 (by omega)];congr 1;omega
theorem vM:∀y,y < 256->bits BinOp.and .u8 ((y:Nat):Int) 1=((y % 2:Nat):Int):=by decide +kernel
theorem uQ (z:Nat->Int) (n x v:Nat) (hv:v < 4294967296) (hx:x < 256) (hb:(bits BinOp.and .u8 ((x:Int) / 2 ^ (7-n % 8)) 1 == 1)=bO z n) :
  bits BinOp.or .u64 ((v:Int)*2) (IntKind.u64.wrap (bits BinOp.and .u8 ((x:Int) / 2 ^ (7-n % 8)) 1))=((2*v+(if bO z n then 1 else 0):Nat):Int):=by
 have e:((x:Int) / 2 ^ (7-n % 8))=((x / 2 ^ (7-n % 8):Nat):Int):=by simp
 rw[e]at hb ⊢;rw[vM _ (Nat.lt_of_le_of_lt (Nat.div_le_self _ _) hx)]at hb ⊢;obtain⟨y,hy⟩:=af (x / 2 ^ (7-n % 8) % 2)
 rw[<-hy]at hb ⊢;have hy2:y < 2:=by omega
 have hw:IntKind.u64.wrap ((y:Nat):Int)=((y:Nat):Int):=by rw[IntKind.wrap_u64];omega
 rw[hw,xN v y hv hy2,<-hb];rcases (by omega:y=0\/y=1)with h | h<;>subst h<;>simp
theorem vh (g:Nat) (A:Option Addr) (len cap p:Nat) (hl:len<=100000) (hp:p<=8*len) (w:World) (hB:ae w g 260 #[.slice A len cap,.int .i64 (p:Int)]) :
  Calls Tryz.prog 224 #[.pointer (some ⟨g,0,none⟩)] w fun e w'=>e=.returned (.int .i64 (8*(len:Int)-p))/\∃d,w'=w.drewN d:=by
 have c0:w.cell? ⟨g,0,none⟩=some (.slice A len cap):=hB.cell 0;have c1:w.cell? ⟨g,1,none⟩=some (.int .i64 (p:Int)):=hB.cell 1;have k1:IntKind.i64.wrap (8*(len:Int))=8*(len:Int):=IntWalk.i64_in _ (by omega);have k2:IntKind.i64.wrap (8*(len:Int)-p)=8*(len:Int)-p:=IntWalk.i64_in _ (by omega);go_enter Tryz.func224,Tryz.ntmps224;go_wp2;go_quiet (fail);go_wp2;go_ret
 exact⟨rfl,_,rfl⟩
def df (w:World) (g:Nat) (A:Option Addr) (len cap:Nat) (z:Nat->Int) (p:Nat):Prop:=
 ae w g 260 #[.slice A len cap,.int .i64 (p:Int)]/\au w w.heap.size A len (fun j=>.int .u8 (z j))
theorem df.step {w:World} {g:Nat} {A:Option Addr} {len cap p:Nat} {z:Nat->Int} (h:df w g A len cap z p) (q:Nat):df (w.setCell ⟨g,1,none⟩ (.int .i64 (q:Int))) g A len cap z q:=
 ⟨h.1.set_ 1 _,h.2.apart h.1 (by intro i hi j;have h2:i < 2:=hi;match i,h2 with | 0,_=>simp | 1,_=>simp) (p:=⟨g,1,none⟩) rfl _⟩
theorem df.drewN {w:World} {g:Nat} {A:Option Addr} {len cap p:Nat} {z:Nat->Int} (h:df w g A len cap z p) (d:Nat):df (w.drewN d) g A len cap z p:=h
def xn (g:Nat) (A:Option Addr) (len cap:Nat) (z:Nat->Int) (p width:Nat) (w:World) (e:Ending) (w':World):Prop:=
 e=.returned (.tuple #[.int .u64 (ef z p width:Nat),.int .i64 0])/\df w' g A len cap z (p+width)/\w.grownBy w' (some g)/\w'.heap.size=w.heap.size
theorem kU {w w':World} {row:Option Nat} (h:w.grownBy w' row) (d:Nat):w.grownBy (w'.drewN d) row:=⟨h.os,h.tape,h.output,h.size,h.block⟩
theorem aQ {w w':World} {g:Nat} (h:w.grownBy w' (some g)) (i:Nat) (v:Value):w.grownBy (w'.setCell ⟨g,i,none⟩ v) (some g):=
 ⟨h.os,h.tape,h.output,by simpa using h.size,fun k hk hne=>(Below.heap_setCell w' _ _ k (fun e=>hne (by rw[e]))).trans (h.block k hk hne)⟩
theorem xE (g:Nat) (A:Option Addr) (len cap p width:Nat) (z:Nat->Int) (hl:len<=100000) (hw:width<=32) (hp:p+width<=8*len) (hz:∀j,j < len->0<=z j/\z j < 256) (w:World) (h:df w g A len cap z p) :
  Calls Tryz.prog 207 #[.pointer (some ⟨g,0,none⟩),.int .i64 (width:Int)] w (xn g A len cap z p width w):=by
 have HZ:=zh hz;have HR:=zh h;have HL:=zh (vh g A len cap p hl (by omega) w h.1);have hlt:(width:Int)<=8*(len:Int)-p:=by omega
 clear hz h;go_enter Tryz.func207,Tryz.ntmps207;go_wp2_with (go_at_call 224;refine(HL.out).mono ?_;rintro e w1 ⟨rfl,d1,rfl⟩);go_loopw [4,22] (fun v4 v22 wr=>∃k:Nat,k<=width/\v22=.int .i64 k/\v4=.int .u64 (ef z p k:Nat)/\df wr g A len cap z (p+k)/\w.grownBy wr (some g)/\wr.heap.size=w.heap.size) (fun _ v _=>width-(intOf v).toNat)
 case atStart=>exact⟨0,Nat.zero_le _,rfl,rfl,HR.out.drewN _,⟨rfl,rfl,rfl,Nat.le_refl _,fun _ _ _=>rfl⟩,rfl⟩
 case round=>
  obtain⟨k,hk,rfl,rfl,hR,hg,hs⟩:=hrel;have HRk:=zh hR;have HG:=zh hg;have HS:=zh hs;clear hR hg hs;by_cases hlt2:k < width
  ·have c0:wr.cell? ⟨g,0,none⟩=some (.slice A len cap):=HRk.out.1.cell 0;have c1:wr.cell? ⟨g,1,none⟩=some (.int .i64 ((p+k:Nat):Int)):=HRk.out.1.cell 1;have f1:=HRk.out.1.frozen 1;obtain⟨n,hn⟩:=af (p+k)
   rw[<-hn]at c1;have hn8:n / 8 < len:=by omega
   obtain⟨lb,lo,rfl,hlb,hlc⟩:=HRk.out.2 (by omega);obtain⟨x,hx⟩:∃x:Nat,z (n / 8)=(x:Int):=⟨(z (n / 8)).toNat,by have:=HZ.out (n / 8) hn8;omega⟩
   have hx256:x < 256:=by have:=HZ.out (n / 8) hn8;omega
   have hci:wr.cell? ⟨lb,lo+n / 8,none⟩=some (.int .u8 (x:Int)):=by rw[<-hx];exact hlc _ hn8
   have hbit:=tq z n x hx hx256;have HBit:=zh hbit;have hvl:=jG z p k;have hv32:ef z p k < 4294967296:=bg hvl (ba (Nat.pow_le_pow_right (by decide) (by omega:k<=32)) (by decide));obtain⟨v,hv⟩:=af (ef z p k)
   rw[<-hv]at hv32 ⊢;have HN:=zh hn;have HV:=zh hv;clear hlc hx hbit hvl hv hn;go_wp2;have k0:(n:Int).tmod 8=(n:Int) % 8:=Int.tmod_eq_emod_of_nonneg (by omega);have k1:IntKind.i64.wrap ((n:Int) / 8)=(n:Int) / 8:=IntWalk.i64_in _ (by omega);have k2:IntKind.i64.wrap ((n:Int) % 8)=(n:Int) % 8:=IntWalk.i64_in _ (by omega);have k3:IntKind.i64.wrap (7-(n:Int) % 8)=7-(n:Int) % 8:=IntWalk.i64_in _ (by omega);have k4:(0:Int)<=(n:Int) / 8:=by omega
   have k5:((n:Int) / 8).toNat=n / 8:=by omega
   have k6:(0:Int)<=7-(n:Int) % 8:=by omega
   have k7:(7-(n:Int) % 8).toNat=7-n % 8:=by omega
   have k8:(n:Int) / 8 < (len:Int):=by omega
   have k9:IntKind.u64.wrap ((v:Int)*2)=(v:Int)*2:=by rw[IntKind.wrap_u64];omega
   go_quiet (fail);clear k0 k1 k2 k3 k4 k5 k6 k7 k8 k9;rw[uQ z n x v hv32 hx256 HBit.out];have hgv:((2*v+(if bO z n then 1 else 0):Nat):Int)=((ef z p (k+1):Nat):Int):=by
    rw[HV.out,HN.out];rfl
   rw[hgv];clear hgv;go_wp2;go_roundw
   case rel=>exact⟨k+1,by omega,by go_num,rfl,by
    have h1:=(HRk.out.drewN nq).step (n+1);rw[<-Nat.add_assoc,<-HN.out];simpa using h1,aQ (kU HG.out _) _ _,by simp;exact HS.out⟩
   case measure=>simp[intOf];omega
  ·obtain rfl:k=width:=by omega
   go_wp2;go_ret2
   exact⟨rfl,HRk.out,HG.out,HS.out⟩
theorem pO (eb fb rb ob:Nat) (w:World) (he:w.cell? ⟨eb,0,none⟩=some (.int .i64 0)) :
  CallsD Tryz.prog 223 #[.pointer (some ⟨eb,0,none⟩),.pointer (some ⟨fb,0,none⟩),.pointer (some ⟨rb,0,none⟩),.pointer (some ⟨ob,0,none⟩)] .returning w fun e u' w'=>u'=.returning/\e=.returned (.tuple #[])/\w'=w:=by
 go_enter_d Tryz.func223,Tryz.ntmps223;go_wp2;go_end0
 exact⟨rfl,rfl⟩
def so (ws:Nat->Nat):Nat->Nat
 | 0=>0
 | j+1=>so ws j+ws j
def gm (z:Nat->Int) (ws:Nat->Nat) (p m:Nat):List Value:=(List.range m).map (fun j=>.int .u64 ((ef z (p+so ws j) (ws j):Nat):Int))
theorem mz (z:Nat->Int) (ws:Nat->Nat) (p m:Nat):gm z ws p (m+1)=gm z ws p m++[.int .u64 ((ef z (p+so ws m) (ws m):Nat):Int)]:=by simp[gm,List.range_succ]
theorem oJ (z:Nat->Int) (ws:Nat->Nat) (p m j:Nat) (h:j < m):(gm z ws p m)[j]? = some (.int .u64 ((ef z (p+so ws j) (ws j):Nat):Int)):=by simp[gm,h]
theorem qo (ws:Nat->Nat) (a:Nat):∀d,so ws a<=so ws (a+d)
 | 0=>Nat.le_refl _
 | d+1=>ba (qo ws a d) (Nat.le_add_right _ _)
theorem infoU64:(Tryz.prog.info? 76).map (fun i=>(i.zero,i.size,i.bytes))=some (some (.int .u64 0),1,8):=by kernel_rfl
theorem jU {a w:World} (h:Below a.heap.size a w):a.grownBy w none:=⟨h.os,h.tape,h.output,h.size,fun i hi _=>h.block i hi⟩
theorem df.grown {w w':World} {g:Nat} {A:Option Addr} {len cap p:Nat} {z:Nat->Int} (h:df w g A len cap z p) {row:Option Nat} (hg:w.grownBy w' row) (hgr:some g ≠ row) (hA:∀a,A=some a->some a.block ≠ row):df w' g A len cap z p:=
 ⟨h.1.grown hg hgr,fun hn=>by
  obtain⟨b,off,e,hb,hc⟩:=h.2 hn;refine⟨b,off,e,by have:=hg.size;omega,fun j hj=>?_⟩
  exact(di (p:=⟨b,off+j,none⟩) (hg.block b hb (hA _ e))).trans (hc j hj)⟩
def qK (g:Nat) (z:Nat->Int) (ws:Nat->Nat) (p n:Nat) (w:World) (e:Ending) (w':World):Prop:=
 ∃B c,e=.returned (.tuple #[.slice B n c,.int .i64 0])/\au w' w'.heap.size B n (fun j=>.int .u64 ((ef z (p+so ws j) (ws j):Nat):Int))/\w.grownBy w' (some g)
theorem vG (g:Nat) (A L:Option Addr) (len cap p n lc:Nat) (z:Nat->Int) (ws:Nat->Nat) (hl:len<=100000) (hn:n<=1000) (hws:∀j,j < n->ws j<=32) (hp:p+so ws n<=8*len) (hz:∀j,j < len->0<=z j/\z j < 256) (hLg:∀a,L=some a->a.block ≠ g) (hAg:∀a,A=some a->a.block < g) (w:World) (h:df w g A len cap z p) (hL:au w w.heap.size L n (fun j=>.int .i64 (ws j:Nat))) :
  Calls Tryz.prog 206 #[.pointer (some ⟨g,0,none⟩),.slice L n lc,.func (.func 207) #[.pointer (some ⟨g,0,none⟩)] #[]] w (qK g z ws p n w):=by
 have HR:=zh h;have HL:=zh hL;have HZ:=zh hz;have HWS:=zh hws;have hmf:∀(fn:Fn) (first cap:Array Value) (w:World),(Instr.makeFunc fn first cap).run Tryz.prog w=.ok (.func fn first cap) w:=fun _ _ _ _=>rfl;have hgl:=h.1.lt;have hca:∀o1 o2 o3,(((w.alloc o1).alloc o2).alloc o3).cell? ⟨g,1,none⟩=some (.int .i64 (p:Int)):=fun o1 o2 o3=>
  (World.cell?_alloc_lt _ _ ⟨g,1,none⟩ (by simp;omega)).trans ((World.cell?_alloc_lt _ _ ⟨g,1,none⟩ (by simp;omega)).trans ((World.cell?_alloc_lt _ _ ⟨g,1,none⟩ hgl).trans (h.1.cell 1)))
 obtain⟨i0,hi0,hz0,hz1,hz2⟩:=info_parts infoU64;have HLG:=zh hLg;have HAG:=zh hAg;clear h hL hz hws hLg hAg;go_enter_defers Tryz.func206,Tryz.ntmps206;go_wp2;clear hca;obtain⟨W0,hW0⟩:=af ((((w.alloc (.cells #[.pointer (some ⟨g,0,none⟩)] 206)).alloc (.cells #[.slice none 0 0] 140)).alloc (.cells #[.int .i64 0] 37)).alloc (.cells #[.int .i64 (p:Int)] 3))
 have z0:W0.heap.size=w.heap.size+4:=by rw[hW0];simp
 have b0:Below w.heap.size w W0:=by rw[hW0];exact((((Below.refl _ w).alloc ao _).alloc (by simp) _).alloc (by simp;omega) _).alloc (by simp;omega) _
 have O0:Boxed W0 (w.heap.size+1) 140 (.slice none 0 0):=by
  rw[hW0];have:=Boxed.new (w.alloc (.cells #[.pointer (some ⟨g,0,none⟩)] 206)) 140 (.slice none 0 0);rw[World.size_alloc]at this
  exact(this.alloc _).alloc _
 have E0:ae W0 (w.heap.size+2) 37 #[.int .i64 0]:=by
  rw[hW0];have:=ae.new ((w.alloc (.cells #[.pointer (some ⟨g,0,none⟩)] 206)).alloc (.cells #[.slice none 0 0] 140)) 37 #[.int .i64 0];rw[World.size_alloc,World.size_alloc]at this
  exact this.alloc _
 have R0:df W0 g A len cap z p:=HR.out.grown (jU b0) (by simp) (fun _ _ h=>by cases h);rw[<-hW0];have HO:=zh O0;have HE:=zh E0;have HR0:=zh R0;have HB0:=zh b0;clear hW0 O0 E0 R0 b0;go_loopw [22] (fun v22 wr=>∃k:Nat,k<=n/\v22=.int .i64 k/\(∃v,Boxed wr (w.heap.size+1) 140 v/\wr.ownsRow (w.heap.size+4) 76 1 v k (gm z ws p k))/\ae wr (w.heap.size+2) 37 #[.int .i64 0]/\df wr g A len cap z (p+so ws k)/\w.grownBy wr (some g)/\w.heap.size+4<=wr.heap.size) (fun v _=>n-(intOf v).toNat)
 case atStart=>exact⟨0,Nat.zero_le _,rfl,⟨_,HO.out,World.ownsRow_nil _ _ _ _⟩,HE.out,HR0.out,⟨HB0.out.os,HB0.out.tape,HB0.out.output,HB0.out.size,fun k h1 h2=>HB0.out.block k h1⟩,by omega⟩
 case round=>
  obtain⟨k,hk,rfl,⟨v,hO,hown⟩,hE,hR,hG,hS⟩:=hrel;have HRk:=zh hR;have HG:=zh hG;obtain⟨vA,vc,rfl,_,_,_,hvr⟩:=dn (f:=fun j=>.int .u64 ((ef z (p+so ws j) (ws j):Nat):Int)) hown (fun j hj=>oJ _ _ _ _ _ hj);have hOc:=hO.cell;clear hR hG;by_cases hlt:k < n
  ·have hcl:∃lb lo,L=some ⟨lb,lo,none⟩/\wr.cell? ⟨lb,lo+k,none⟩=some (.int .i64 (ws k:Nat)):=by
    obtain⟨lb,lo,e,hlb,hlc⟩:=HL.out (by omega)
    exact⟨lb,lo,e,(di (p:=⟨lb,lo+k,none⟩) (HG.out.block lb hlb (fun h=>HLG.out _ e (by cases h;rfl)))).trans (hlc k hlt)⟩
   obtain⟨lb,lo,rfl,hcl⟩:=hcl;have hwk:=HWS.out k hlt;have hso:p+so ws k+ws k<=8*len:=by
    have h1:=qo ws (k+1) (n-(k+1));rw[show k+1+(n-(k+1))=n by omega]at h1;have h2:so ws (k+1)=so ws k+ws k:=rfl;omega
   have HGet:=zh (xE g A len cap (p+so ws k) (ws k) z hl hwk hso HZ.out wr HRk.out);go_wp2_with (first
    | (go_at_call 207;refine(HGet.out).mono ?_;rintro e w2 ⟨rfl,hR2,hg2,hs2⟩;have hO2:Boxed w2 (w.heap.size+1) 140 (.slice vA k vc):=hO.kept hg2 (by simp;omega);have hE2:=hE.grown hg2 (by simp;omega);have hown2:=hown.kept hg2 (.inr (fun e=>by have:=(hown.lt g (by first | exact e | exact e.symm)).1;omega));have hOc2:=hO2.cell;have HR2:=zh hR2;have HG2:=zh hg2;have HS2:=zh hs2;clear hR2 hg2 hs2 hOc)
    | (at_builtin;refine wpList_append_own _ rfl _ _ 140 rfl (w.heap.size+4) 76 i0 (.int .u64 0) 1 8 Tryz.underlying140 hi0 hz0 hz1 hz2 rfl (by decide) _ _ _ rfl (hown2.alloc _) ⟨w2.heap.size,0,none⟩ 1 1 [.int .u64 ((ef z (p+so ws k) (ws k):Nat):Int)] rfl rfl (cell_one_new _ _ _) (by simp[Value.oneCell']) (by unfold maxLen;omega) (by omega) (by have:=HS2.out;simp;omega) ?_;intro v' w3 hown' hgrow _;obtain⟨g',cap',rfl⟩:=ownsRow_succ hown';obtain⟨hv1,hv2,hr2,hk2,hb2⟩:=hO2.appended (by decide) (aT hown2 (show w.heap.size+1<=_ by omega)) (by have:=HS2.out;omega) ao (aT hown' (by omega)) hgrow;have hc1:=hv1.cell;have hf1:=hv1.frozen))
   have hown3:=hown'.kept (grownBy_setCell' w3 (w.heap.size+1) (.slice (some ⟨g',0,none⟩) (k+1) cap')) (.inr (hv1.not_row (by decide) hown').symm);go_roundw
   case rel=>
    refine⟨k+1,by omega,by go_num,⟨_,hv2,by rw[mz];exact hown3⟩,?_,?_,?_,?_⟩
    ·have h1:w3.heap[w.heap.size+2]? = w2.heap[w.heap.size+2]?:=(hgrow.block (w.heap.size+2) (by have:=HS2.out;simp;omega) (fun e=>by have:=(hown2.lt _ e.symm).1;omega)).trans (Below.heap_alloc w2 _ _ (by have:=HS2.out;omega))
     exact((Below.heap_setCell w3 _ _ (w.heap.size+2) (by simp)).trans h1).trans hE2
    ·rw[show p+so ws (k+1)=p+so ws k+ws k by show p+(so ws k+ws k)=_;omega];have hfar:∀b,b < w.heap.size->(w3.setCell ⟨w.heap.size+1,0,none⟩ (.slice (some ⟨g',0,none⟩) (k+1) cap')).heap[b]? = w2.heap[b]?:=fun b hb=>hb2.block b (by omega)
     exact⟨(hfar g hgl).trans HR2.out.1,fun hn0=>by
      obtain⟨b,off,e,hb,hc⟩:=HR2.out.2 hn0;have hbg:b < g:=HAG.out _ e
      exact⟨b,off,e,by have:=hb2.size;omega,fun j hj=>(di (p:=⟨b,off+j,none⟩) (hfar b (by omega))).trans (hc j hj)⟩⟩
    ·have h0:w.grownBy w2 (some g):=⟨HG2.out.os.trans HG.out.os,HG2.out.tape.trans HG.out.tape,HG2.out.output.trans HG.out.output,ba HG.out.size HG2.out.size,fun b h1 h2=>(HG2.out.block b (by have:=HG.out.size;omega) h2).trans (HG.out.block b h1 h2)⟩
     exact⟨hb2.os.trans h0.os,hb2.tape.trans h0.tape,hb2.output.trans h0.output,ba h0.size hb2.size,fun b h1 h2=>(hb2.block b (by omega)).trans (h0.block b h1 h2)⟩
    ·have:=hb2.size;have:=HS2.out;omega
   case measure=>simp[intOf];omega
  ·obtain rfl:k=n:=by omega
   have hEc:=hE.cell 0;have hEf:=hE.frozen 0;have hOf:=hO.frozen;go_wp2;have hO2:ae ((wr.setCell ⟨w.heap.size+1,0,none⟩ (.slice vA k vc)).setCell ⟨w.heap.size+1+1,0,none⟩ (.int .i64 0)) (w.heap.size+1) 140 #[.slice vA k vc]:=(ae.set_ (cs:=#[.slice vA k vc]) hO 0 (.slice vA k vc)).far (by simp) _;have hE2:ae ((wr.setCell ⟨w.heap.size+1,0,none⟩ (.slice vA k vc)).setCell ⟨w.heap.size+1+1,0,none⟩ (.int .i64 0)) (w.heap.size+2) 37 #[.int .i64 0]:=(hE.far (by simp) _).set_ 0 (.int .i64 0);have y0:=hO2.cell 0;have y1:=hE2.cell 0;refine leaves_cons (f:=223) (args:=#[.pointer (some ⟨w.heap.size+1+1,0,none⟩),.pointer (some ⟨w.heap.size+1+1+1,0,none⟩),.pointer (some ⟨w.heap.size,0,none⟩),.pointer (some ⟨w.heap.size+1,0,none⟩)]) (by simp) (by simp[go_sem]) ?_;refine(pO _ _ _ _ _ y1).mono ?_;rintro e u' w'' ⟨rfl,rfl,rfl⟩;refine⟨.tuple #[.slice vA k vc,.int .i64 0],by simp[results,Tryz.results206,go_sem,y0,y1],vA,vc,rfl,?_,?_⟩
   ·have r1:=hvr.apart (cs:=#[.slice vA k vc]) hO (by intro i hi j;have h1:i < 1:=hi;match i,h1 with | 0,_=>simp) (p:=⟨w.heap.size+1,0,none⟩) rfl (.slice vA k vc)
    exact r1.apart (hE.far (p:=⟨w.heap.size+1,0,none⟩) (by simp) (.slice vA k vc)) (by intro i hi j;have h1:i < 1:=hi;match i,h1 with | 0,_=>simp) (p:=⟨w.heap.size+2,0,none⟩) rfl (.int .i64 0)
   ·exact⟨HG.out.os,HG.out.tape,HG.out.output,by simpa using HG.out.size,fun b h1 h2=>(Below.heap_setCell _ _ _ b (by simp;omega)).trans ((Below.heap_setCell _ _ _ b (by simp;omega)).trans (HG.out.block b h1 h2))⟩
end Go.Proofs.YtiiojpnckbglcaaGreat
namespace Go.Proofs.YtiiojpnckbglcaaGreat
open Go.RowKit Go.Shelf
attribute [local go_sem] Oper.semAt_some
theorem dH (e:Int) (w:World):Calls Tryz.prog 127 #[.bool true,.int .i64 e] w fun en w'=>en=.returned (.tuple #[])/\w'=w:=by
 go_enter Tryz.func127,Tryz.ntmps127;go_wp2;go_end0
 exact⟨rfl,rfl⟩
theorem fy (e:Int) (w:World):Calls Tryz.prog 127 #[.bool false,.int .i64 e] w fun en w'=>en=.panicked [{ v:=.iface 37 (.int .i64 e),recovered:=false }]/\w'=w:=by
 go_enter Tryz.func127,Tryz.ntmps127;go_wp2
 exact⟨rfl,rfl,rfl⟩
theorem xH (B:Option Addr) (n c:Nat) (w:World):Calls Tryz.prog 168 #[.slice B n c,.int .i64 0] w fun en w'=>en=.returned (.slice B n c)/\w'=w:=by
 go_enter Tryz.func168,Tryz.ntmps168;go_wp2_with (go_at_call 127;refine(dH _ _).mono ?_;rintro e w1 ⟨rfl,rfl⟩);go_ret
 exact⟨rfl,rfl⟩
theorem iA (A:Option Addr) (n c:Nat) (z:Nat->Int) (hn:n<=100000) (w:World) (hr:au w w.heap.size A n (fun j=>.int .u8 (z j))) :
  Calls Tryz.prog 128 #[.slice A n c] w fun e w'=>∃g A2 c2,e=.returned (.pointer (some ⟨g,0,none⟩))/\w.heap.size<=g/\df w' g A2 n c2 z 0/\(∀a,A2=some a->a.block < g)/\Below w.heap.size w w'/\w'.heap.size=g+1:=by
 have HC:=zh (dc A n c z w (by omega) hr);clear hr;go_enter Tryz.func128,Tryz.ntmps128;go_wp2_with (go_at_call 39;refine(HC.out).mono ?_;rintro e w1 ⟨A2,c2,rfl,hc2,ho,hb⟩;have HC2:=zh hc2;clear hc2);go_ret;have hR:=(dt ho).2;refine⟨w1.heap.size,A2,c2,rfl,hb.size,⟨ae.new _ _ _,bh hR _⟩,fun a e=>?_,dG hb _,by simp⟩;subst e
 exact(ho.lt a.block (by simp[Value.ownBlock])).2
theorem rq (g:Nat) (A L:Option Addr) (len cap p n lc:Nat) (z:Nat->Int) (ws:Nat->Nat) (hl:len<=100000) (hn:n<=1000) (hws:∀j,j < n->ws j<=32) (hp:p+so ws n<=8*len) (hz:∀j,j < len->0<=z j/\z j < 256) (hLg:∀a,L=some a->a.block ≠ g) (hAg:∀a,A=some a->a.block < g) (w:World) (h:df w g A len cap z p) (hL:au w w.heap.size L n (fun j=>.int .i64 (ws j:Nat))) :
  Calls Tryz.prog 169 #[.pointer (some ⟨g,0,none⟩),.slice L n lc] w (qK g z ws p n w):=by
 have HE:=zh (vG g A L len cap p n lc z ws hl hn hws hp hz hLg hAg w h hL);have hmf:∀(fn:Fn) (first cap:Array Value) (w:World),(Instr.makeFunc fn first cap).run Tryz.prog w=.ok (.func fn first cap) w:=fun _ _ _ _=>rfl;clear hws hp hz hLg hAg h hL;go_enter Tryz.func169,Tryz.ntmps169;go_wp2_with (go_at_call 206;refine(HE.out).mono ?_;rintro e w1 ⟨B,c,rfl,hR,hg⟩);go_ret2
 exact⟨B,c,rfl,hR,hg⟩
theorem sd (k:Nat) (hk:k < 10):∃s,oz k=.string s:=
 yx (p:=fun k=>∃s,oz k=.string s) ⟨_,rfl⟩ ⟨_,rfl⟩ ⟨_,rfl⟩ ⟨_,rfl⟩ ⟨_,rfl⟩ ⟨_,rfl⟩ ⟨_,rfl⟩ ⟨_,rfl⟩ ⟨_,rfl⟩ ⟨_,rfl⟩ k hk
theorem uM (b k:Nat) (hk:k < 10):∃F caps,yB b k=.func F #[] caps:=
 yx (p:=fun k=>∃F caps,yB b k=.func F #[] caps) ⟨_,_,rfl⟩ ⟨_,_,rfl⟩ ⟨_,_,rfl⟩ ⟨_,_,rfl⟩ ⟨_,_,rfl⟩ ⟨_,_,rfl⟩ ⟨_,_,rfl⟩ ⟨_,_,rfl⟩ ⟨_,_,rfl⟩ ⟨_,_,rfl⟩ k hk
theorem mA (n:Nat) (w:World) (hn:1<=n) :
  SeqStopsK Fence.wide n Tryz.prog 208 #[] (fun k:Nat=>#[oz k,.int .i64 (iG k:Nat)]) (fun _ _=>True) (fun xs=>xs=List.range 10) (fun pre=>∃m,m<=10/\pre=List.range m) 10 w:=fun l J Jx W hW hJ hJx hY h0=>by
 have HY:=zh hY;have HJ:=zh hJ;clear hJ hJx hY hW;refine callsIn_of_wp Tryz.func208 rfl trivial ?_ rfl;simp only[Tryz.ntmps208,List.size_toArray,List.length_cons,List.length_nil,Nat.reduceAdd,Nat.reduceSub,Array.replicate_succ,Array.replicate_zero,List.push_toArray,List.append_toArray,List.nil_append,List.cons_append];refine wpIn_wide.2 (wp_scope_straight ((wpIn_wide (n:=n)).1 ?_))
 gi_wp2
 refine wpIn_label ?_
 gi_wp2_with (refine⟨trivial,?_⟩;gi_at_call 131;refine(callsIn_wide.2 (m6 _)).mono ?_;rintro e w1 ⟨rfl,hB1,hb1⟩)
 have hJ1:J [] w1:=HJ.out _ W w1 none h0 (kL hb1 none) (fun r h=>by cases h)
 gi_loopw [5] (fun v wr=>∃k:Nat,k<=10/\v=.int .i64 k/\J (List.range k) wr) (fun v _=>10-(intOf v).toNat)
 case atStart=>exact⟨0,by omega,rfl,hJ1⟩
 case round=>
  obtain⟨k,hk,rfl,hJk⟩:=hrel;by_cases hlt:k < 10
  ·have hix:∀X:World,(Instr.index 215 (.agg (bj (W.heap.size+1))) (.int .i64 k)).run Tryz.prog X=.ok (.agg #[oz k,.int .i64 (iG k:Nat),yB (W.heap.size+1) k]) X:=by
    exact yx (p:=fun k:Nat=>∀X:World,(Instr.index 215 (.agg (bj (W.heap.size+1))) (.int .i64 k)).run Tryz.prog X=.ok (.agg #[oz k,.int .i64 (iG k:Nat),yB (W.heap.size+1) k]) X) (fun _=>by kernel_rfl) (fun _=>by kernel_rfl) (fun _=>by kernel_rfl) (fun _=>by kernel_rfl) (fun _=>by kernel_rfl) (fun _=>by kernel_rfl) (fun _=>by kernel_rfl) (fun _=>by kernel_rfl) (fun _=>by kernel_rfl) (fun _=>by kernel_rfl) k hlt
   obtain⟨sn,hsn⟩:=sd k hlt;obtain⟨F,caps,hF⟩:=uM (W.heap.size+1) k hlt;rw[hsn,hF]at hix;obtain⟨W2,hW2⟩:=af (wr.alloc (.cells #[.string sn,.int .i64 (iG k:Nat),.func F #[] caps] 214))
   have hJ2:J (List.range k) W2:=by rw[hW2];exact HJ.out _ wr _ none hJk (World.grownBy_alloc wr _ none) (fun r h=>by cases h)
   have hY2:=HY.out (List.range k) k W2 hJ2 (by simpa using hlt);rw[hsn]at hY2;obtain⟨fn,tmps,assign,body,hy,hR⟩:=hY2;have HRr:=zh hR;have HW2:=zh hW2;rw[hW2]at hy;clear hR hsn hF hW2
   gi_wp2
   rw[<-HW2.out];refine HRr.out.mono ?_;rintro e w4 (⟨rfl,hJ4,_⟩ | ⟨rfl,hx4⟩)
   ·gi_wp2
    go_roundw
    case rel=>exact⟨k+1,by omega,by go_num,by rw[List.range_succ];exact hJ4⟩
    case measure=>simp[intOf];omega
   ·gi_wp2
    try rw[Exit.noGoto_normal]
    go_end0
    exact⟨⟨_,rfl⟩,.inr ⟨List.range (k+1),⟨k+1,by omega,rfl⟩,by rw[List.range_succ];exact hx4⟩⟩
  ·obtain rfl:k=10:=by omega
   gi_wp2
   try rw[Exit.noGoto_normal]
   go_end0
   exact⟨⟨_,rfl⟩,.inl ⟨_,rfl,hJk⟩⟩
theorem sy (w:World):Calls Tryz.prog 170 #[] w fun e w'=>e=.returned (.func (.func 208) #[] #[])/\w'=w:=by
 go_enter Tryz.func170,Tryz.ntmps170;go_wp2;go_ret
 exact⟨rfl,rfl⟩
def rh (w:World) (e:Ending) (w':World):Prop:=
 ∃B c,e=.returned (.slice B 10 c)/\au w' w'.heap.size B 10 (fun j=>.int .i64 (iG j:Nat))/\cj w.heap.size B/\Below w.heap.size w w'
theorem sQ (w:World):Calls Tryz.prog 130 #[] w (rh w):=by
 obtain⟨i0,hi0,hz0,hz1,hz2⟩:=info_parts Tryz.infoInt;refine(callsIn_wide (n:=8)).1 ?_;refine callsIn_of_wp_marks Tryz.func130 rfl trivial ?_ rfl;simp only[Tryz.ntmps130,List.size_toArray,List.length_nil,Nat.reduceSub,Array.replicate_succ,Array.replicate_zero,List.push_toArray,List.append_toArray,List.nil_append,List.cons_append]
 gi_wp2_with (refine⟨trivial,?_⟩;gi_at_call 170;refine(callsIn_wide.2 (sy _)).mono ?_;rintro e w3 ⟨rfl,rfl⟩)
 obtain⟨W0,hW0⟩:=af (w.alloc (.cells #[.slice none 0 0] 111))
 have z0:W0.heap.size=w.heap.size+1:=by rw[hW0];simp
 have B0:Boxed W0 w.heap.size 111 (.slice none 0 0):=by rw[hW0];exact Boxed.new w _ _
 have hb0:Below w.heap.size w W0:=by rw[hW0];exact(Below.refl _ w).alloc ao _
 rw[<-hW0];clear hW0;refine wpIn_rangeFunc_ownF rfl (by decide) (gf:=208) (lb:=#[]) rfl trivial (enters_of Tryz.func208 (by kernel_rfl) rfl)
  (mA 7 W0 (by decide)) (fun _ _=>trivial) (fun _ _ _ _ _ _ _ _=>trivial) (Below.refl _ _) (fun _=>rfl)
  (fun pre W=>(∃v,Boxed W w.heap.size 111 v/\W.ownsRow (w.heap.size+1) 3 1 v pre.length (pre.map (fun k=>Value.int .i64 (iG k:Nat)))/\True)/\Below w.heap.size W0 W)
  (fun c pre W=>False)
  (OwnFrom.and (Own.from (holdsRow_own (w.heap.size+1) w.heap.size 111 3 1 (fun s:List Nat=>s.length) (fun s=>s.map (fun k=>Value.int .i64 (iG k:Nat))) (fun _ _=>True)) _) (ownFrom_below (by omega) (by omega)))
  (fun c s A B row hs hg hr=>hs)
  ⟨⟨_,B0,World.ownsRow_nil _ _ _ _,trivial⟩,Below.refl _ _⟩
  ?a1 ?assign ?body ?done ?stop
 case assign=>
  intro l x W K hK
  gi_wp2
  exact hK
 case body=>
  rintro l pre x W ⟨⟨v,hbx,hown,_⟩,hBW⟩ hlen;have hc:=hbx.cell;have hbs:=hBW.size
  gi_wp2_with (gi_at_builtin;refine wpListIn_append_own _ rfl _ _ 111 rfl (w.heap.size+1) 3 i0 (.int .i64 0) 1 8 Tryz.underlying111 hi0 hz0 hz1 hz2 rfl (by decide) _ _ _ rfl (hown.alloc _) ⟨W.heap.size,0,none⟩ 1 1 [.int .i64 (iG x:Nat)] rfl rfl (cell_one_new _ _ _) (by simp[Value.oneCell']) (by unfold maxLen;omega) (by omega) (by simp;omega) ?_;intro v' w1 hown' hgrow _;obtain⟨g',cap',rfl⟩:=ownsRow_succ hown';obtain⟨hv1,hv2,hr2,hk2,hb2⟩:=hbx.appended (by decide) (aT hown (by omega)) (by omega:w.heap.size<=W.heap.size) ao (aT hown' (by omega)) hgrow;have hc1:=hv1.cell;have hf1:=hv1.frozen)
  have hown2:=hown'.kept (grownBy_setCell' w1 w.heap.size (.slice (some ⟨g',0,none⟩) (pre.length+1) cap')) (.inr (hv1.not_row (by decide) hown').symm)
  exact⟨hk2,trivial,⟨_,hv2,by simpa using hown2,trivial⟩,hBW.trans hb2⟩
 case stop=>
  rintro D c pre W _ _ h _
  exact h.elim
 case done=>
  rintro D xs W hD rfl ⟨⟨v,hbx,hown,_⟩,hBW⟩ hK;obtain⟨A,cap,rfl,hcap,hcapm,hfr,hrow⟩:=dn (f:=fun j=>.int .i64 (iG j:Nat)) hown (fun j hj=>by
   have:j < 10:=by simpa using hj
   simp[this])
  have hc:=hbx.cell;have hcf:=hbx.frozen
  gi_wp2
  have hDn:D ≠ w.heap.size:=by have:=hBW.size;omega
  have hK2:(W.setCell ⟨w.heap.size,0,none⟩ (.slice A 10 cap)).heap[D]? = some (.deferred (some [])):=(Below.heap_setCell _ _ _ D hDn).trans hK;refine⟨by simp,.inl ⟨_,_,rfl,run_takeDeferred hK2,?_⟩⟩;have y0:=((hbx.set (.slice A 10 cap)).kept (grownBy_putObj' _ D (.deferred none)) (fun e=>hDn (by cases e;rfl))).cell;refine⟨.slice A 10 cap,by simp[results,Tryz.results130,go_sem,y0],A,cap,rfl,?_,?_,?_⟩
  ·have hfar:=hrow.apart hbx (by intro i hi j;have hi1:i < 1:=hi;obtain rfl:i=0:=(by omega);simp) (p:=⟨w.heap.size,0,none⟩) rfl (.slice A 10 cap)
   exact hfar.put hK2 rfl _
  ·intro p hp;have:=hfr p hp;omega
  ·exact((hb0.trans hBW).setCell ao _).grown (grownBy_putObj' _ D _) (by have:=hBW.size;simp;omega) (fun k e=>by cases e;have:=hBW.size;omega)
end Go.Proofs.YtiiojpnckbglcaaGreat
