import Derived.Test.YtjanmleoomoedaaGreatMGD
import Derived.Test.YtjanmleoomoedaaGreatMGH
import Derived.Test.YtjanmleoomoedaaGreatTA
import Derived.Deep.SlicePairs
import Derived.Deep.Slices
namespace Go.Proofs.YtjanmleoomoedaaGreat
open Go.RowKit
set_option linter.unusedVariables false
private theorem zh {p:Prop} (h:p):Hid p:=h
def uArr (C:Array Value) (now nx:Int) (q p u:Value):Array Value:=C++#[.int .i64 now,.int .u64 nx,q,p,u]
section
variable {C:Array Value} {now nx:Int} {q p u:Value}
theorem uArr_size (hC:C.size=39):(uArr C now nx q p u).size=44:=by simp[uArr,hC]
theorem uArr_low (hC:C.size=39) {j:Nat} (hj:j < 39):(uArr C now nx q p u)[j]? = C[j]?:=by
 unfold uArr
 rw[Array.getElem?_append_left (by omega)]
theorem uArr_high (hC:C.size=39) (j:Nat):(uArr C now nx q p u)[39+j]? = (#[.int .i64 now,.int .u64 nx,q,p,u]:Array Value)[j]?:=by
 unfold uArr
 rw[Array.getElem?_append_right (by omega),hC,show 39+j-39=j by omega]
theorem uArr_set (hC:C.size=39) (j:Nat) (v:Value):(uArr C now nx q p u).setIfInBounds (39+j) v=C++(#[.int .i64 now,.int .u64 nx,q,p,u]:Array Value).setIfInBounds j v:=by
 unfold uArr
 rw[Array.setIfInBounds_append_right (by omega),hC,show 39+j-39=j by omega]
theorem uArr_now (hC:C.size=39) (x:Int):(uArr C now nx q p u).setIfInBounds 39 (.int .i64 x)=uArr C x nx q p u:=uArr_set hC 0 _
theorem uArr_next (hC:C.size=39) (x:Int):(uArr C now nx q p u).setIfInBounds 40 (.int .u64 x)=uArr C now x q p u:=uArr_set hC 1 _
theorem uArr_q (hC:C.size=39) (x:Value):(uArr C now nx q p u).setIfInBounds 41 x=uArr C now nx x p u:=uArr_set hC 2 _
theorem uArr_p (hC:C.size=39) (x:Value):(uArr C now nx q p u).setIfInBounds 42 x=uArr C now nx q x u:=uArr_set hC 3 _
theorem uArr_u (hC:C.size=39) (x:Value):(uArr C now nx q p u).setIfInBounds 43 x=uArr C now nx q p x:=uArr_set hC 4 _
end
def kCells (k:Nat→Int):List Value:=(kArr k).toList
theorem kCells_len (k:Nat→Int):(kCells k).length=16:=rfl
structure CPk (w:World) (B:Nat) (A:Option Addr) (n c:Nat) (z:Nat→Int):Prop where
 pos:1≤n
 max:n≤9000
 cap:n≤c
 byte:∀j,j < n→0≤z j∧z j < 256
 row:Row w B A n (fun j=>.int .u8 (z j))
theorem CPk.keepF {F:Nat→Prop} {w w':World} {B:Nat} {A:Option Addr} {n c:Nat} {z:Nat→Int} (h:CPk w B A n c z) (hk:KeepF F w w') (hB:B≤w.heap.size) (hF:∀k,F k→B≤k):CPk w' B A n c z:=
 ⟨h.pos,h.max,h.cap,h.byte,hk.row h.row hB (fun a e hn hf=>by
  obtain⟨b,o,e2,hb,_⟩:=h.row (by omega)
  rw[e2]at e
  cases e
  have h2:B≤b:=hF _ hf
  omega)⟩
structure UM (w:World) (B h:Nat) (s:TS) (qA:Option Addr) (qc:Nat) (lq:List WE) (pA:Option Addr) (pc:Nat) (lp:List PE) (uA:Option Addr) (uc:Nat) (ks:List (Nat→Int)):Prop where
 blk:Blk w h 76 (uArr s.C.arr s.now s.next (.slice qA lq.length qc) (.slice pA lp.length pc) (.slice uA ks.length uc))
 qv:lq.map (·.v)=s.Q
 pv:lp.map (·.v)=s.P
 kv:ks.map kArr=s.used
 q:SL w 80 2 qA lq.length qc (lq.flatMap WE.cells)
 p:SL w 78 3 pA lp.length pc (lp.flatMap PE.cells)
 u:SL w 23 16 uA ks.length uc (ks.flatMap kCells)
 qe:∀e,e∈lq→CPk w B e.A e.v.n e.c e.v.z
 pe:∀e,e∈lp→CPk w B e.A e.v.n e.c e.v.z
 pr:∀e,e∈s.P→0≤e.ct∧e.ct < 4294967296
 bh:B≤h
 bq:∀a,qA=some a→B≤a.block
 bp:∀a,pA=some a→B≤a.block
 bu:∀a,uA=some a→B≤a.block
 bw:B≤w.heap.size
 now0:0≤s.now∧s.now < 1073741824
 next0:0≤s.next∧s.next≤4294967296
def aBlk (A:Option Addr) (k:Nat):Prop:=∃a,A=some a∧k=a.block
def uBlk (h:Nat) (qA pA uA:Option Addr) (k:Nat):Prop:=k=h∨aBlk qA k∨aBlk pA k∨aBlk uA k
section
variable {w w':World} {B h:Nat} {s:TS} {qA:Option Addr} {qc:Nat} {lq:List WE} {pA:Option Addr} {pc:Nat} {lp:List PE} {uA:Option Addr} {uc:Nat} {ks:List (Nat→Int)} {F:Nat→Prop}
theorem UM.keepF (m:UM w B h s qA qc lq pA pc lp uA uc ks) (hk:KeepF F w w') (h1:∀k,F k→B≤k) (h2:∀k,F k→¬uBlk h qA pA uA k):UM w' B h s qA qc lq pA pc lp uA uc ks:=
 ⟨hk.blk m.blk (fun hf=>h2 _ hf (.inl rfl)),m.qv,m.pv,m.kv,m.q.keepF hk (fun a e hf=>h2 _ hf (.inr (.inl ⟨a,e,rfl⟩))),m.p.keepF hk (fun a e hf=>h2 _ hf (.inr (.inr (.inl ⟨a,e,rfl⟩)))),m.u.keepF hk (fun a e hf=>h2 _ hf (.inr (.inr (.inr ⟨a,e,rfl⟩)))),
  fun e he=>(m.qe e he).keepF hk m.bw h1,fun e he=>(m.pe e he).keepF hk m.bw h1,m.pr,m.bh,m.bq,m.bp,m.bu,Nat.le_trans m.bw hk.size,m.now0,m.next0⟩
theorem UM.below (m:UM w B h s qA qc lq pA pc lp uA uc ks) (hb:Below w.heap.size w w'):UM w' B h s qA qc lq pA pc lp uA uc ks:=
 m.keepF (F:=fun _=>False) (KeepF.of_below hb) (fun _ hf=>hf.elim) (fun _ hf=>hf.elim)
theorem UM.cnow (m:UM w B h s qA qc lq pA pc lp uA uc ks):w.cell? ⟨h,39,none⟩=some (.int .i64 s.now):=(m.blk.cell 39).trans (uArr_high s.C.arr_size 0)
theorem UM.cnext (m:UM w B h s qA qc lq pA pc lp uA uc ks):w.cell? ⟨h,40,none⟩=some (.int .u64 s.next):=(m.blk.cell 40).trans (uArr_high s.C.arr_size 1)
theorem UM.cq (m:UM w B h s qA qc lq pA pc lp uA uc ks):w.cell? ⟨h,41,none⟩=some (.slice qA lq.length qc):=(m.blk.cell 41).trans (uArr_high s.C.arr_size 2)
theorem UM.cp (m:UM w B h s qA qc lq pA pc lp uA uc ks):w.cell? ⟨h,42,none⟩=some (.slice pA lp.length pc):=(m.blk.cell 42).trans (uArr_high s.C.arr_size 3)
theorem UM.cu (m:UM w B h s qA qc lq pA pc lp uA uc ks):w.cell? ⟨h,43,none⟩=some (.slice uA ks.length uc):=(m.blk.cell 43).trans (uArr_high s.C.arr_size 4)
theorem UM.cC (m:UM w B h s qA qc lq pA pc lp uA uc ks) {j:Nat} (hj:j < 39):w.cell? ⟨h,j,none⟩=some (s.C.cell j):=(m.blk.cell j).trans ((uArr_low s.C.arr_size hj).trans (s.C.arr_at hj))
theorem UM.hq (m:UM w B h s qA qc lq pA pc lp uA uc ks):∀a,qA=some a→h ≠ a.block:=fun a ha=>by
 obtain⟨cur,hc⟩:=m.q.obj ha
 exact cells_ne m.blk hc (by decide)
theorem UM.hp (m:UM w B h s qA qc lq pA pc lp uA uc ks):∀a,pA=some a→h ≠ a.block:=fun a ha=>by
 obtain⟨cur,hc⟩:=m.p.obj ha
 exact cells_ne m.blk hc (by decide)
theorem UM.hu (m:UM w B h s qA qc lq pA pc lp uA uc ks):∀a,uA=some a→h ≠ a.block:=fun a ha=>by
 obtain⟨cur,hc⟩:=m.u.obj ha
 exact cells_ne m.blk hc (by decide)
theorem UM.qp (m:UM w B h s qA qc lq pA pc lp uA uc ks):∀a b,qA=some a→pA=some b→a.block ≠ b.block:=fun a b ha hb=>by
 obtain⟨cur,hc⟩:=m.q.obj ha
 obtain⟨cur2,hc2⟩:=m.p.obj hb
 exact cells_ne hc hc2 (by decide)
theorem UM.qu (m:UM w B h s qA qc lq pA pc lp uA uc ks):∀a b,qA=some a→uA=some b→a.block ≠ b.block:=fun a b ha hb=>by
 obtain⟨cur,hc⟩:=m.q.obj ha
 obtain⟨cur2,hc2⟩:=m.u.obj hb
 exact cells_ne hc hc2 (by decide)
theorem UM.pu (m:UM w B h s qA qc lq pA pc lp uA uc ks):∀a b,pA=some a→uA=some b→a.block ≠ b.block:=fun a b ha hb=>by
 obtain⟨cur,hc⟩:=m.p.obj ha
 obtain⟨cur2,hc2⟩:=m.u.obj hb
 exact cells_ne hc hc2 (by decide)
theorem UM.put {s':TS} (m:UM w B h s qA qc lq pA pc lp uA uc ks) (hk:KeepF (fun k=>k=h) w w') (hb:Blk w' h 76 (uArr s'.C.arr s'.now s'.next (.slice qA lq.length qc) (.slice pA lp.length pc) (.slice uA ks.length uc))) (e1:s'.Q=s.Q) (e2:s'.P=s.P) (e3:s'.used=s.used) (hn:0≤s'.now∧s'.now < 1073741824) (hx:0≤s'.next∧s'.next≤4294967296):UM w' B h s' qA qc lq pA pc lp uA uc ks:=
 ⟨hb,by rw[e1];exact m.qv,by rw[e2];exact m.pv,by rw[e3];exact m.kv,m.q.keepF hk (fun a e hf=>m.hq a e hf.symm),m.p.keepF hk (fun a e hf=>m.hp a e hf.symm),m.u.keepF hk (fun a e hf=>m.hu a e hf.symm),
  fun e he=>(m.qe e he).keepF hk m.bw (fun k hf=>by rw[hf];exact m.bh),fun e he=>(m.pe e he).keepF hk m.bw (fun k hf=>by rw[hf];exact m.bh),by rw[e2];exact m.pr,m.bh,m.bq,m.bp,m.bu,Nat.le_trans m.bw hk.size,hn,hx⟩
theorem UM.setNow (m:UM w B h s qA qc lq pA pc lp uA uc ks) (x:Int) (hx:0≤x∧x < 1073741824):UM (w.setCell ⟨h,39,none⟩ (.int .i64 x)) B h { s with now:=x } qA qc lq pA pc lp uA uc ks:=
 m.put ((KeepF.refl (F:=fun k=>k=h) (w:=w)).setCell (p:=⟨h,39,none⟩) rfl _) (by rw[←uArr_now s.C.arr_size];exact m.blk.set_ 39 _) rfl rfl rfl hx m.next0
theorem UM.setNext (m:UM w B h s qA qc lq pA pc lp uA uc ks) (x:Int) (hx:0≤x∧x≤4294967296):UM (w.setCell ⟨h,40,none⟩ (.int .u64 x)) B h { s with next:=x } qA qc lq pA pc lp uA uc ks:=
 m.put ((KeepF.refl (F:=fun k=>k=h) (w:=w)).setCell (p:=⟨h,40,none⟩) rfl _) (by rw[←uArr_next s.C.arr_size];exact m.blk.set_ 40 _) rfl rfl rfl m.now0 hx
theorem UM.setQ (m:UM w B h s qA qc lq pA pc lp uA uc ks) (A:Option Addr) (c:Nat) (l:List WE) (hs:SL w 80 2 A l.length c (l.flatMap WE.cells)) (hl:∀e,e∈l→CPk w B e.A e.v.n e.c e.v.z) (hA:∀a,A=some a→B≤a.block):UM (w.setCell ⟨h,41,none⟩ (.slice A l.length c)) B h { s with Q:=l.map (·.v) } A c l pA pc lp uA uc ks:=by
 have hk:KeepF (fun k=>k=h) w (w.setCell ⟨h,41,none⟩ (.slice A l.length c)):=(KeepF.refl (F:=fun k=>k=h) (w:=w)).setCell (p:=⟨h,41,none⟩) rfl _
 have hh:∀k,k=h→B≤k:=fun k hf=>by rw[hf];exact m.bh
 refine⟨by rw[←uArr_q s.C.arr_size];exact m.blk.set_ 41 _,rfl,m.pv,m.kv,hs.keepF hk (fun a e hf=>?_),m.p.keepF hk (fun a e hf=>m.hp a e hf.symm),m.u.keepF hk (fun a e hf=>m.hu a e hf.symm),fun e he=>(hl e he).keepF hk m.bw hh,fun e he=>(m.pe e he).keepF hk m.bw hh,m.pr,m.bh,hA,m.bp,m.bu,Nat.le_trans m.bw hk.size,m.now0,m.next0⟩
 obtain⟨cur,hc⟩:=hs.obj e
 exact cells_ne m.blk hc (by decide) hf.symm
end
end Go.Proofs.YtjanmleoomoedaaGreat
namespace Go.Proofs.YtjanmleoomoedaaGreat
open Go.RowKit
set_option linter.unusedVariables false
attribute [local go_sem ↓] Go.wp_at_zero Go.wp_at_succ
theorem unext_ok (nx:Int) (us:Bool) (a b:Value) (w:World) (h:0≤nx∧nx < 4294967296):Calls Tryz.prog 23 #[.agg #[.int .u32 nx,.bool us,a,b]] w fun e w'=>e=.returned (.int .u64 (nextOf nx us))∧Below w.heap.size w w':=by
 have tw:IntKind.u64.wrap nx=nx:=by simp[IntKind.wrap_u64];omega
 have b0:=zh (fun o:Obj=>(Below.refl _ w).alloc (Nat.le_refl _) o)
 cases us
 ·go_enter Tryz.func23,Tryz.ntmps23
  go_wp2
  go_ret
  exact⟨rfl,b0.out _⟩
 ·go_enter Tryz.func23,Tryz.ntmps23
  go_wp2
  go_ret
  exact⟨rfl,b0.out _⟩
def repsN (l:List PV):Nat:=(l.filter (·.rep)).length
theorem repsN_succ {l:List PV} {k:Nat} {p:PV} (h:l[k]? = some p):repsN (l.take (k+1))=repsN (l.take k)+if p.rep=true then 1 else 0:=by
 unfold repsN
 rw[List.take_add_one,h,List.filter_append,List.length_append]
 congr 1
 cases hp:p.rep<;>simp[hp]
theorem repsN_le (l:List PV):repsN l≤l.length:=List.length_filter_le _ _
section
variable {w w':World} {B h:Nat} {s:TS} {qA:Option Addr} {qc:Nat} {lq:List WE} {pA:Option Addr} {pc:Nat} {lp:List PE} {uA:Option Addr} {uc:Nat} {ks:List (Nat→Int)} {F:Nat→Prop}
theorem UM.pcell (m:UM w B h s qA qc lq pA pc lp uA uc ks) {k:Nat} {e:PE} (hk:lp[k]? = some e):∃b o,pA=some ⟨b,o,none⟩∧b < w.heap.size∧w.cell? ⟨b,o+k*3,none⟩=some (.int .u32 e.v.ct)∧w.cell? ⟨b,o+k*3+1,none⟩=some (.slice e.A e.v.n e.c)∧w.cell? ⟨b,o+k*3+2,none⟩=some (.bool e.v.rep):=by
 have hlt:k < lp.length:=(List.getElem?_eq_some_iff.1 hk).1
 obtain⟨b,o,hA,hb⟩:=m.p.some_ (by omega)
 have hc:∀j,j < 3→w.cell? ⟨b,o+k*3+j,none⟩=(PE.cells e)[j]?:=fun j hj=>by
  have:=m.p.cell hA (j:=k*3+j) (by have:=Nat.mul_le_mul_right 3 hlt;rw[Nat.succ_mul]at this;omega)
  rw[←Nat.add_assoc]at this
  rw[this]
  exact flat_at PE.cells 3 PE.len lp k j e hk hj
 exact⟨b,o,hA,hb,hc 0 (by decide),hc 1 (by decide),hc 2 (by decide)⟩
theorem UM.qcell (m:UM w B h s qA qc lq pA pc lp uA uc ks) {k:Nat} {e:WE} (hk:lq[k]? = some e):∃b o,qA=some ⟨b,o,none⟩∧b < w.heap.size∧w.cell? ⟨b,o+k*2,none⟩=some (.slice e.A e.v.n e.c)∧w.cell? ⟨b,o+k*2+1,none⟩=some (.int .i64 e.v.at_):=by
 have hlt:k < lq.length:=(List.getElem?_eq_some_iff.1 hk).1
 obtain⟨b,o,hA,hb⟩:=m.q.some_ (by omega)
 have hc:∀j,j < 2→w.cell? ⟨b,o+k*2+j,none⟩=(WE.cells e)[j]?:=fun j hj=>by
  have:=m.q.cell hA (j:=k*2+j) (by have:=Nat.mul_le_mul_right 2 hlt;rw[Nat.succ_mul]at this;omega)
  rw[←Nat.add_assoc]at this
  rw[this]
  exact flat_at WE.cells 2 WE.len lq k j e hk hj
 exact⟨b,o,hA,hb,hc 0 (by decide),hc 1 (by decide)⟩
theorem UM.qlen (m:UM w B h s qA qc lq pA pc lp uA uc ks):s.Q.length=lq.length:=by rw[←m.qv,List.length_map]
theorem UM.plen (m:UM w B h s qA qc lq pA pc lp uA uc ks):s.P.length=lp.length:=by rw[←m.pv,List.length_map]
set_option maxRecDepth 100000 in
theorem urepeats_ok (m:UM w B h s qA qc lq pA pc lp uA uc ks) (hl:lp.length≤1000000):Calls Tryz.prog 37 #[.pointer (some ⟨h,0,none⟩)] w fun e w'=>e=.returned (.int .i64 (repsN s.P:Nat))∧Below w.heap.size w w':=by
 have HM:=zh m
 have HPV:=zh m.pv
 obtain⟨n,hn⟩:∃n,n=lp.length:=⟨_,rfl⟩
 have hpn:s.P.length=n:=by rw[←m.pv,List.length_map,hn]
 have HLN:=zh hn
 have HPN:=zh hpn
 obtain⟨P,hP⟩:∃P,P=s.P:=⟨_,rfl⟩
 rw[←hP]at HPV HPN ⊢
 have n0:(0:Int)≤(n:Int):=by omega
 have n9:(n:Int)≤1000000:=by omega
 have HCP:=zh (show w.cell? ⟨h,42,none⟩=some (.slice pA n pc) by rw[hn];exact m.cp)
 clear hP hpn hn hl m
 go_enter Tryz.func37,Tryz.ntmps37
 go_wp2
 go_loopw [3,4] (fun v3 v4 wr=>∃k:Nat,k≤n∧v4=.int .i64 k∧v3=.int .i64 (repsN (P.take k):Nat)∧Below w.heap.size w wr) (fun _ v4 _=>n-(intOf v4).toNat)
 case atStart=>exact⟨0,by omega,rfl,rfl,Below.refl _ _⟩
 case round=>
  obtain⟨k,hk,rfl,rfl,hB⟩:=hrel
  have HB:=zh hB
  have k0:(0:Int)≤(k:Int):=by omega
  have hM2:=HM.out.below hB
  have cp:wr.cell? ⟨h,42,none⟩=some (.slice pA n pc):=(hB.cell (p:=⟨h,42,none⟩) HM.out.blk.lt).trans HCP.out
  have hle:=repsN_le (P.take k)
  rw[List.length_take]at hle
  by_cases hlt:k < n
  ·have k1:(k:Int) < (n:Int):=by omega
   have hke:lp[k]? = some (lp[k]'(by rw[←HLN.out];exact hlt)):=List.getElem?_eq_getElem _
   obtain⟨e,he⟩:∃e,lp[k]? = some e:=⟨_,hke⟩
   obtain⟨b,o,hA,hb,c0,c1,c2⟩:=hM2.pcell he
   have hPk:P[k]? = some e.v:=by rw[←HPV.out,List.getElem?_map,he];rfl
   have HS:=zh (repsN_succ hPk)
   obtain⟨rp,hrp⟩:∃r,r=repsN (P.take k):=⟨_,rfl⟩
   rw[←hrp]at HS hle ⊢
   obtain⟨rr,hrr⟩:∃r,r=e.v.rep:=⟨_,rfl⟩
   rw[←hrr]at c2 HS
   subst hA
   have r0:(0:Int)≤(rp:Int):=by omega
   have r1:(rp:Int)≤1000000:=by omega
   have HLT:=zh hlt
   clear hke he hPk hrp hrr hM2 hB hle hlt c0 c1
   cases rr
   ·go_wp2
    go_roundw
    case rel=>exact⟨k+1,HLT.out,by go_num,by rw[HS.out];simp,HB.out⟩
    case measure=>have:=HLT.out;simp[intOf];omega
   ·go_wp2
    go_roundw
    case rel=>exact⟨k+1,HLT.out,by go_num,by rw[HS.out];simp,HB.out⟩
    case measure=>have:=HLT.out;simp[intOf];omega
  ·obtain rfl:n=k:=by omega
   have k1:¬(n:Int) < (n:Int):=by omega
   have HE:=zh (show repsN (P.take n)=repsN P by rw[List.take_of_length_le (Nat.le_of_eq HPN.out)])
   rw[HE.out]
   clear hM2 hB hle hlt
   go_wp2
   go_ret
   exact⟨rfl,HB.out⟩
end
end Go.Proofs.YtjanmleoomoedaaGreat
namespace Go.Proofs.YtjanmleoomoedaaGreat
open Go.RowKit
set_option linter.unusedVariables false
attribute [local go_sem ↓] Go.wp_at_zero Go.wp_at_succ
theorem keep_iff {s:TS} {n:Int} {q:QV} (hd:0≤s.C.ds):(!s.gone n q)=(decide (s.C.ds=0) || decide (n-q.at_ < s.C.ds)):=by
 unfold TS.gone
 by_cases h0:s.C.ds=0
 ·rw[decide_eq_true h0,decide_eq_false (by omega)]
  rfl
 ·rw[decide_eq_false h0,decide_eq_true (show 0 < s.C.ds by omega)]
  by_cases h1:n-q.at_ < s.C.ds
  ·rw[decide_eq_true h1,decide_eq_false (by omega)]
   rfl
  ·rw[decide_eq_false h1,decide_eq_true (by omega)]
   rfl
theorem infoWaitU:∃i:TypeInfo,Tryz.prog.info? 80 = some i∧i.zero=some (.agg #[.slice none 0 0,.int .i64 0])∧i.size=2∧i.bytes=32:=by
 have h:(Tryz.prog.info? 80).map (fun i=>(i.zero,i.size,i.bytes))=some (some (.agg #[.slice none 0 0,.int .i64 0]),2,32):=by kernel_rfl
 cases hi:Tryz.prog.info? 80 with
 | none=>rw[hi]at h;cases h
 | some i=>
  rw[hi]at h
  simp only[Option.map_some,Option.some.injEq,Prod.mk.injEq]at h
  exact⟨i,rfl,h.1,h.2.1,h.2.2⟩
theorem src_wait (V:World) (A:Option Addr) (n c:Nat) (x:Int):Src Tryz.prog 2 73 (.slice (some ⟨V.heap.size,0,none⟩) 1 1) 1 [.slice A n c,.int .i64 x] (V.alloc (.cells #[.slice A n c,.int .i64 x] 80)):=
 Src.ofSlice _ Tryz.underlying73 ⟨V.heap.size,0,none⟩ 1 1 _ (by rfl) (fun j u hu=>by
  rw[Addr.add_lit,Nat.zero_add,(Blk.new V 80 #[.slice A n c,.int .i64 x]).cell j]
  simpa using hu) (by intro u hu;simp at hu;rcases hu with rfl | rfl<;>rfl)
section
variable {w w':World} {B h:Nat} {s:TS} {qA:Option Addr} {qc:Nat} {lq:List WE} {pA:Option Addr} {pc:Nat} {lp:List PE} {uA:Option Addr} {uc:Nat} {ks:List (Nat→Int)} {F:Nat→Prop}
set_option maxRecDepth 100000 in
set_option maxHeartbeats 6400000 in
theorem utick_ok (m:UM w B h s qA qc lq pA pc lp uA uc ks) (hf:s.Fine) (hl:lq.length≤1000000) (t:Int) (ht1:-9223372036854775808≤t) (ht2:t≤9223372036854775807) :
  Calls Tryz.prog 49 #[.pointer (some ⟨h,0,none⟩),.int .i64 t] w fun e w'=>e=.returned (.int .i64 (if 1073741824≤t then 2 else 0))∧∃qA' qc' lq',UM w' B h (if 1073741824≤t then s else s.tick t) qA' qc' lq' pA pc lp uA uc ks∧KeepF (fun k=>k=h) w w'∧∀a,qA'=some a→qA=some a∨w.heap.size≤a.block:=by
 have HM:=zh m
 by_cases ct:1073741824≤t
 ·rw[if_pos ct,if_pos ct]
  clear m
  go_enter Tryz.func49,Tryz.ntmps49
  go_wp2
  go_ret
  exact⟨rfl,qA,qc,lq,HM.out,KeepF.refl,fun a ha=>.inl ha⟩
 rw[if_neg ct,if_neg ct]
 have HF:=zh hf
 obtain⟨mx,hmx⟩:∃mx,mx=max s.now t:=⟨_,rfl⟩
 have hn0:=m.now0
 have hmb:0≤mx∧mx < 1073741824:=by omega
 have HMX:=zh hmx
 have HM1:=zh (m.setNow mx hmb)
 have HKS:=zh (show KeepF (fun k=>k=h) w (w.setCell ⟨h,39,none⟩ (.int .i64 mx))from (KeepF.refl (F:=fun k=>k=h) (w:=w)).setCell (p:=⟨h,39,none⟩) rfl _)
 have c1:=m.cnow
 have f1:=m.blk.frozen 39
 obtain⟨nw,hnw⟩:∃nw,nw=s.now:=⟨_,rfl⟩
 rw[←hnw]at c1 hn0
 have hmx2:(if nw < t then t else nw)=mx:=by rw[hmx,hnw];split<;>omega
 have HLL:=zh hl
 clear m hf hmx hnw hl
 go_enter Tryz.func49,Tryz.ntmps49
 go_upto_region 4 with (fail)
 obtain⟨i0,hi0,hz0,hz1,hz2⟩:=infoWaitU
 obtain⟨n,hn⟩:∃n,n=lq.length:=⟨_,rfl⟩
 obtain⟨ds,hds⟩:∃d,d=s.C.ds:=⟨_,rfl⟩
 have n0:(0:Int)≤(n:Int):=by omega
 have n9:(n:Int)≤1000000:=by have:=HLL.out;omega
 have d0:0≤ds∧ds≤1073741824:=by rw[hds];exact⟨HF.out.val.2.2.2.1,HF.out.val.2.2.2.2.1⟩
 have HN:=zh hn
 have HDS:=zh hds
 refine wp_let (fun V=>UM V B h { s with now:=mx } qA qc lq pA pc lp uA uc ks∧KeepF (fun k=>k=h) w V) ⟨HM1.out,HKS.out⟩ ?_
 rintro V1 ⟨v1,v2⟩
 have HV:=zh (And.intro v1 v2)
 have x39:=v1.cnow
 have x37:V1.cell? ⟨h,37,none⟩=some (.int .i64 ds):=by rw[hds];exact v1.cC (by decide)
 have x41:V1.cell? ⟨h,41,none⟩=some (.slice qA n qc):=by rw[hn];exact v1.cq
 have hlt1:=v1.blk.lt
 clear v1 v2 hn hds c1 f1 hn0 hmx2
 go_wp2
 go_loopw [5,6] (fun v5 v6 wr=>∃(k:Nat) (lr:List WE) (A:Option Addr) (c:Nat),k≤n∧v6=.int .i64 k∧v5=.slice A lr.length c∧lr=(lq.take k).filter (fun e=>!s.gone mx e.v)∧SL wr 80 2 A lr.length c (lr.flatMap WE.cells)∧(∀a,A=some a→V1.heap.size≤a.block)∧Below V1.heap.size V1 wr) (fun _ v6 _=>n-(intOf v6).toNat)
 case atStart=>exact⟨0,[],none,0,by omega,rfl,rfl,rfl,SL.nil _ _ _,fun a ha=>(by cases ha),Below.refl _ _⟩
 case round=>
  obtain⟨k,lr,A,c,hk,rfl,rfl,hlr,hS,hA,hB⟩:=hrel
  have HLR:=zh hlr
  have HS:=zh hS
  have HA:=zh hA
  have HB:=zh hB
  have k0:(0:Int)≤(k:Int):=by omega
  have y39:wr.cell? ⟨h,39,none⟩=some (.int .i64 mx):=(hB.cell (p:=⟨h,39,none⟩) hlt1).trans x39
  have y37:wr.cell? ⟨h,37,none⟩=some (.int .i64 ds):=(hB.cell (p:=⟨h,37,none⟩) hlt1).trans x37
  have y41:wr.cell? ⟨h,41,none⟩=some (.slice qA n qc):=(hB.cell (p:=⟨h,41,none⟩) hlt1).trans x41
  clear hlr hS hA hB
  by_cases hlt:k < n
  ·have k1:(k:Int) < (n:Int):=by omega
   obtain⟨e,he⟩:∃e,lq[k]? = some e:=⟨_,List.getElem?_eq_getElem (by rw[←HN.out];exact hlt)⟩
   obtain⟨b,o,hqA,hb,q0,q1⟩:=(HV.out.1.below HB.out).qcell he
   have hat:=HF.out.at_ e.v (by rw[←HV.out.1.qv];exact List.mem_map.2 ⟨e,List.mem_of_getElem? he,rfl⟩)
   have HE:=zh he
   obtain⟨at_,hat_⟩:∃a,a=e.v.at_:=⟨_,rfl⟩
   rw[←hat_]at q1 hat
   have a1:at_≤mx:=by have:=HMX.out;omega
   have HAT:=zh hat_
   have HLT:=zh hlt
   subst hqA
   clear he hlt hat_
   have HBL:=zh hb
   have HQ0:=zh q0
   have HQ1:=zh (show wr.cell? ⟨b,o+k*2+1,none⟩=some (.int .i64 e.v.at_) by rw[←HAT.out];exact q1)
   have hlr:h < wr.heap.size:=Nat.lt_of_lt_of_le hlt1 HB.out.size
   have u37:∀x:ExtT wr,x.v.cell? ⟨h,37,none⟩=some (.int .i64 ds):=fun x=>x.cell y37 hlr
   have u39:∀x:ExtT wr,x.v.cell? ⟨h,39,none⟩=some (.int .i64 mx):=fun x=>x.cell y39 hlr
   have u41:∀x:ExtT wr,x.v.cell? ⟨h,41,none⟩=some (.slice (some ⟨b,o,none⟩) n qc):=fun x=>x.cell y41 hlr
   have uat:∀x:ExtT wr,x.v.cell? ⟨b,o+k*2+1,none⟩=some (.int .i64 at_):=fun x=>x.cell q1 hb
   have hrl:lr.length≤k:=by
    rw[HLR.out]
    refine Nat.le_trans (List.length_filter_le _ _) ?_
    rw[List.length_take]
    exact Nat.min_le_left _ _
   have HKI:=zh (keep_iff (s:=s) (n:=mx) (q:=e.v) (by rw[←HDS.out];exact d0.1))
   by_cases hd:ds=0
   ·have HKP:=zh (show(!s.gone mx e.v)=true by rw[HKI.out,←HDS.out,hd];rfl)
    subst hd
    go_upto_region 8 with (fail)
    clear y37 y39 y41 q0 q1 hb
    refine wp_region_extT (by kernel_rfl) (by kernel_rfl) ?_
    repeat (go_big_quiet_step (fail))
    refine wpQuiet_nil ?_
    rintro _ ⟨ex,rfl⟩
    have HEX:=zh (HB.out.trans (ex.h.mono HB.out.size))
    have HS2:=zh (HS.out.next ex.h)
    have z41:=u41 ex
    have HRG:=zh (show ex.v.rangeAt b (o+k*2) [.slice e.A e.v.n e.c,.int .i64 e.v.at_]from fun j v hv=>by
     have hj:j < 2:=(List.getElem?_eq_some_iff.1 hv).1
     rcases (by omega:j=0∨j=1)with rfl | rfl
     ·exact(ex.h.cell (p:=⟨b,o+k*2,none⟩) HBL.out).trans (HQ0.out.trans (by simpa using hv))
     ·exact(ex.h.cell (p:=⟨b,o+k*2+1,none⟩) HBL.out).trans (HQ1.out.trans (by simpa using hv)))
    obtain⟨W2,hW2⟩:∃W2,W2=ex.v:=⟨_,rfl⟩
    rw[←hW2]at z41 HRG HS2 HEX ⊢
    clear u37 u39 u41 uat hW2
    go_wp2_with (first
     | (refine wpList_load_mid rfl _ _ rfl b (o+k*2) rfl [.slice e.A e.v.n e.c,.int .i64 e.v.at_] _ HRG.out Tryz.underlying80 rfl (by kernel_rfl) ?_)
     | (refine wpList_sl_append rfl _ _ 73 73 rfl _ 80 i0 (.agg #[.slice none 0 0,.int .i64 0]) 2 32 Tryz.underlying73 hi0 hz0 hz1 hz2 rfl A lr.length c (lr.flatMap WE.cells) rfl (HS2.out.next ((Below.refl _ _).alloc (Nat.le_refl _) _)) (.slice (some ⟨W2.heap.size,0,none⟩) 1 1) rfl 1 (WE.cells e) (src_wait W2 e.A e.v.n e.c e.v.at_) (by omega) (by unfold maxLen;omega) (by omega) ?_;intro A8 c8 V8 hs8 hk8 ha8;have HS8:=zh hs8;have HK8:=zh hk8;have HA8:=zh ha8;clear hs8 hk8 ha8))
    go_roundw
    case rel=>
     have hl2:(lq.take (k+1)).filter (fun e=>!s.gone mx e.v)=lr++[e]:=by
      rw[List.take_add_one,HE.out,List.filter_append,←HLR.out]
      simp[HKP.out]
     have hs1:=HEX.out.size
     have hb8:=HEX.out.alloc (o:=.cells #[.slice e.A e.v.n e.c,.int .i64 e.v.at_] 80) hs1
     exact⟨k+1,lr++[e],A8,c8,HLT.out,by go_num,by rw[List.length_append];rfl,hl2.symm,by
      rw[List.length_append,List.flatMap_append]
      simpa using HS8.out,fun a ha=>by
      rcases HA8.out a ha with ⟨a',e',hb'⟩ | hb'
      ·rw[hb'];exact HA.out a' e'
      ·have:=hb8.size;omega,KeepF.below hb8 HK8.out (fun q ⟨a,ha,hq⟩=>by rw[hq];exact HA.out a ha) hb8.size⟩
    case measure=>have:=HLT.out;simp[intOf];omega
   have dd:(ds == 0)=false:=by simpa using hd
   by_cases hlt:mx-at_ < ds
   ·have HKP:=zh (show(!s.gone mx e.v)=true by rw[HKI.out,←HDS.out,←HAT.out,decide_eq_true hlt,Bool.or_true])
    have dl:decide (mx-at_ < ds)=true:=decide_eq_true hlt
    clear hlt hd
    go_upto_region 8 with (fail)
    clear y37 y39 y41 q0 q1 hb
    refine wp_region_extT (by kernel_rfl) (by kernel_rfl) ?_
    repeat (go_big_quiet_step (fail))
    refine wpQuiet_nil ?_
    rintro _ ⟨ex,rfl⟩
    have HEX:=zh (HB.out.trans (ex.h.mono HB.out.size))
    have HS2:=zh (HS.out.next ex.h)
    have z41:=u41 ex
    have HRG:=zh (show ex.v.rangeAt b (o+k*2) [.slice e.A e.v.n e.c,.int .i64 e.v.at_]from fun j v hv=>by
     have hj:j < 2:=(List.getElem?_eq_some_iff.1 hv).1
     rcases (by omega:j=0∨j=1)with rfl | rfl
     ·exact(ex.h.cell (p:=⟨b,o+k*2,none⟩) HBL.out).trans (HQ0.out.trans (by simpa using hv))
     ·exact(ex.h.cell (p:=⟨b,o+k*2+1,none⟩) HBL.out).trans (HQ1.out.trans (by simpa using hv)))
    obtain⟨W2,hW2⟩:∃W2,W2=ex.v:=⟨_,rfl⟩
    rw[←hW2]at z41 HRG HS2 HEX ⊢
    clear u37 u39 u41 uat hW2
    go_wp2_with (first
     | (refine wpList_load_mid rfl _ _ rfl b (o+k*2) rfl [.slice e.A e.v.n e.c,.int .i64 e.v.at_] _ HRG.out Tryz.underlying80 rfl (by kernel_rfl) ?_)
     | (refine wpList_sl_append rfl _ _ 73 73 rfl _ 80 i0 (.agg #[.slice none 0 0,.int .i64 0]) 2 32 Tryz.underlying73 hi0 hz0 hz1 hz2 rfl A lr.length c (lr.flatMap WE.cells) rfl (HS2.out.next ((Below.refl _ _).alloc (Nat.le_refl _) _)) (.slice (some ⟨W2.heap.size,0,none⟩) 1 1) rfl 1 (WE.cells e) (src_wait W2 e.A e.v.n e.c e.v.at_) (by omega) (by unfold maxLen;omega) (by omega) ?_;intro A8 c8 V8 hs8 hk8 ha8;have HS8:=zh hs8;have HK8:=zh hk8;have HA8:=zh ha8;clear hs8 hk8 ha8))
    go_roundw
    case rel=>
     have hl2:(lq.take (k+1)).filter (fun e=>!s.gone mx e.v)=lr++[e]:=by
      rw[List.take_add_one,HE.out,List.filter_append,←HLR.out]
      simp[HKP.out]
     have hs1:=HEX.out.size
     have hb8:=HEX.out.alloc (o:=.cells #[.slice e.A e.v.n e.c,.int .i64 e.v.at_] 80) hs1
     exact⟨k+1,lr++[e],A8,c8,HLT.out,by go_num,by rw[List.length_append];rfl,hl2.symm,by
      rw[List.length_append,List.flatMap_append]
      simpa using HS8.out,fun a ha=>by
      rcases HA8.out a ha with ⟨a',e',hb'⟩ | hb'
      ·rw[hb'];exact HA.out a' e'
      ·have:=hb8.size;omega,KeepF.below hb8 HK8.out (fun q ⟨a,ha,hq⟩=>by rw[hq];exact HA.out a ha) hb8.size⟩
    case measure=>have:=HLT.out;simp[intOf];omega
   ·have HKP:=zh (show(!s.gone mx e.v)=false by rw[HKI.out,←HDS.out,←HAT.out,decide_eq_false hlt,decide_eq_false hd];rfl)
    have dl:decide (mx-at_ < ds)=false:=decide_eq_false hlt
    clear hlt hd
    go_upto_region 8 with (fail)
    clear y37 y39 y41 q0 q1 hb
    refine wp_region_extT (by kernel_rfl) (by kernel_rfl) ?_
    repeat (go_big_quiet_step (fail))
    refine wpQuiet_nil ?_
    rintro _ ⟨ex,rfl⟩
    have HEX:=zh (HB.out.trans (ex.h.mono HB.out.size))
    have HS2:=zh (HS.out.next ex.h)
    clear u37 u39 u41 uat
    go_wp2
    go_roundw
    case rel=>
     have hl2:(lq.take (k+1)).filter (fun e=>!s.gone mx e.v)=lr:=by
      rw[List.take_add_one,HE.out,List.filter_append,←HLR.out]
      simp[HKP.out]
     exact⟨k+1,lr,A,c,HLT.out,by go_num,rfl,hl2.symm,HS2.out,HA.out,HEX.out⟩
    case measure=>have:=HLT.out;simp[intOf];omega
  ·obtain rfl:n=k:=by omega
   have k1:¬(n:Int) < (n:Int):=by omega
   have hle:lr=lq.filter (fun e=>!s.gone mx e.v):=by rw[HLR.out,HN.out,List.take_length]
   have hM:=(HV.out.1.below HB.out).setQ A c lr HS.out (fun e he=>(HV.out.1.below HB.out).qe e (by rw[hle]at he;exact(List.mem_filter.1 he).1)) (fun a ha=>Nat.le_trans HV.out.1.bw (HA.out a ha))
   have HMF:=zh hM
   have f41:=(HV.out.1.below HB.out).blk.frozen 41
   have HTI:=zh (show({ s with now:=mx,Q:=lr.map (·.v) }:TS)=s.tick t by
    unfold TS.tick
    rw[←HMX.out,hle,←HV.out.1.qv,List.filter_map]
    rfl)
   clear hM hlt hle
   go_wp2
   go_ret
   have hk:=HV.out.2.trans (KeepF.of_below (F:=fun k=>k=h) HB.out) (fun _ _ e=>e)
   refine⟨rfl,A,⟨c,lr,?_⟩,?_,fun a ha=>.inr (Nat.le_trans HV.out.2.size (HA.out a ha))⟩
   ·rw[←HTI.out]
    first | exact HMF.out | exact HMF.out.below (Below.refl _ _).drew
   ·first | exact hk.setCell (p:=⟨h,41,none⟩) rfl _ | exact(hk.setCell (p:=⟨h,41,none⟩) rfl _).drew
end
end Go.Proofs.YtjanmleoomoedaaGreat
namespace Go.Proofs.YtjanmleoomoedaaGreat
open Go.RowKit
set_option linter.unusedVariables false
attribute [local go_sem ↓] Go.wp_at_zero Go.wp_at_succ
set_option maxRecDepth 100000 in
set_option maxHeartbeats 3200000 in
theorem trepeats_ok (g:Nat) (s:TS) (W R:Nat→Prop) (w:World) (hI:TxI w g s W R) (hl:s.P.length≤1000000):Calls Tryz.prog 36 #[.pointer (some ⟨g,0,none⟩)] w fun e w'=>e=.returned (.int .i64 (repsN s.P:Nat))∧Below w.heap.size w w':=by
 obtain⟨qA,qc,lq,pA,pc,lp,ub,cb,m⟩:=hI
 have HM:=zh m
 have HPV:=zh m.pv
 obtain⟨n,hn⟩:∃n,n=lp.length:=⟨_,rfl⟩
 have hpn:s.P.length=n:=by rw[←m.pv,List.length_map,hn]
 have HLN:=zh hn
 have HPN:=zh hpn
 obtain⟨P,hP⟩:∃P,P=s.P:=⟨_,rfl⟩
 rw[←hP]at HPV HPN ⊢
 have n0:(0:Int)≤(n:Int):=by omega
 have n9:(n:Int)≤1000000:=by omega
 have cp:w.cell? ⟨g,43,none⟩=some (.slice pA n pc):=by rw[hn];exact m.cp
 clear hP hpn hn hl m
 go_enter Tryz.func36,Tryz.ntmps36
 go_wp2
 go_loopw [3,13] (fun v3 v13 wr=>∃k:Nat,k≤n∧v13=.int .i64 k∧v3=.int .i64 (repsN (P.take k):Nat)∧Below w.heap.size w wr) (fun _ v13 _=>n-(intOf v13).toNat)
 case atStart=>exact⟨0,by omega,rfl,rfl,Below.refl _ _⟩
 case round=>
  obtain⟨k,hk,rfl,rfl,hB⟩:=hrel
  have HB:=zh hB
  have k0:(0:Int)≤(k:Int):=by omega
  have hle:=repsN_le (P.take k)
  rw[List.length_take]at hle
  by_cases hlt:k < n
  ·have k1:(k:Int) < (n:Int):=by omega
   obtain⟨e,he⟩:∃e,lp[k]? = some e:=⟨_,List.getElem?_eq_getElem (by rw[←HLN.out];exact hlt)⟩
   obtain⟨b,o,hA,hb,c0,c1,c2⟩:=(HM.out.below hB).pcell he
   have hPk:P[k]? = some e.v:=by rw[←HPV.out,List.getElem?_map,he];rfl
   have HS:=zh (repsN_succ hPk)
   obtain⟨rp,hrp⟩:∃r,r=repsN (P.take k):=⟨_,rfl⟩
   rw[←hrp]at HS hle ⊢
   obtain⟨rr,hrr⟩:∃r,r=e.v.rep:=⟨_,rfl⟩
   rw[←hrr]at c2 HS
   have HRG:=zh (show wr.rangeAt b (o+k*3) [.int .u32 e.v.ct,.slice e.A e.v.n e.c,.bool rr]from fun j v hv=>by
    have hj:j < 3:=(List.getElem?_eq_some_iff.1 hv).1
    rcases (by omega:j=0∨j=1∨j=2)with rfl | rfl | rfl
    ·exact c0.trans (by simpa using hv)
    ·exact c1.trans (by simpa using hv)
    ·exact c2.trans (by simpa using hv))
   have HBL:=zh hb
   subst hA
   have r0:(0:Int)≤(rp:Int):=by omega
   have r1:(rp:Int)≤1000000:=by omega
   have HLT:=zh hlt
   clear he hPk hrp hrr hB hle hlt c0 c1 c2 hb
   go_upto_region 6 with (first
    | (refine wpList_load_mid rfl _ _ rfl b (o+k*3) rfl [.int .u32 e.v.ct,.slice e.A e.v.n e.c,.bool rr] _ HRG.out Tryz.underlying69 rfl (by kernel_rfl) ?_)
    | (refine wpList_store_row rfl _ _ _ rfl wr.heap.size #[.int .u32 e.v.ct,.slice e.A e.v.n e.c,.bool rr] rfl rfl 69 #[.int .u32 0,.slice none 0 0,.bool false] (Blk.new _ _ _) (by kernel_rfl) rfl rfl ?_))
   refine wp_let (fun V=>V.cell? ⟨wr.heap.size,2,none⟩=some (.bool rr)∧Below w.heap.size w V) ⟨(Blk.new wr 69 #[.int .u32 e.v.ct,.slice e.A e.v.n e.c,.bool rr]).cell 2,HB.out.alloc HB.out.size _⟩ ?_
   rintro V ⟨v1,v2⟩
   obtain⟨xb,hxb⟩:∃xb,xb=wr.heap.size:=⟨_,rfl⟩
   rw[←hxb]at v1 ⊢
   have HV:=zh v2
   clear v2 hxb
   cases rr
   ·go_wp2
    go_roundw
    case rel=>exact⟨k+1,HLT.out,by go_num,by rw[HS.out];simp,HV.out⟩
    case measure=>have:=HLT.out;simp[intOf];omega
   ·go_wp2
    go_roundw
    case rel=>exact⟨k+1,HLT.out,by go_num,by rw[HS.out];simp,HV.out⟩
    case measure=>have:=HLT.out;simp[intOf];omega
  ·obtain rfl:n=k:=by omega
   have k1:¬(n:Int) < (n:Int):=by omega
   have HE:=zh (show repsN (P.take n)=repsN P by rw[List.take_of_length_le (Nat.le_of_eq HPN.out)])
   rw[HE.out]
   clear hB hle hlt
   go_wp2
   go_ret
   exact⟨rfl,HB.out⟩
end Go.Proofs.YtjanmleoomoedaaGreat
namespace Go.Proofs.YtjanmleoomoedaaGreat
open Go.RowKit
set_option linter.unusedVariables false
section
variable {P:Program}
theorem SL.srcN {w:World} {e tx e':TypeId} {sz:Nat} (hk:P.underlying tx=some (.slice e')) {A:Option Addr} {n c:Nat} {xs:List Value} (h:SL w e sz A n c xs) (h1:∀u,u∈xs→u.oneCell'=true):Src P sz tx (.slice A n c) n xs w:=by
 have hl:=h.len
 rcases h.at_ with ⟨rfl,rfl,rfl⟩ | ⟨b,o,cur,rfl,h2,h3,h4,h5,h6⟩
 ·have:xs=[]:=List.eq_nil_of_length_eq_zero (by rw[hl,Nat.zero_mul])
  subst this
  exact Src.ofNil w hk 0
 ·refine Src.ofSlice w hk ⟨b,o,none⟩ n c xs hl (fun j u hu=>?_) h1
  have hj:j < n*sz:=by have:=(List.getElem?_eq_some_iff.1 hu).1;rwa [hl]at this
  rw[Addr.add_lit]
  exact(h.cell rfl hj).trans hu
theorem sl_append0 (w:World) (t tx ty e:TypeId) (i:TypeInfo) (ht:P.underlying t=some (.slice e)) (hi:P.info? e=some i) {A:Option Addr} {n c:Nat} {xs:List Value} (h:SL w e i.size A n c xs) (x:Value) (hs:Src P i.size tx x 0 [] w) :
  (Builtin.append_ #[t,tx] ty #[.slice A n c,x]).run P w=.ok (.slice A n c) w:=by
 have hroom:n+0≤c:=by have:=h.le;omega
 cases A with
 | some a=>
  rcases h.at_ with ⟨h1,_⟩ | ⟨b,o,cur,h1,_⟩
  ·cases h1
  ·cases h1
   exact run_append_room_src (P:=P) w t tx ty e i ht hi b o n c x 0 [] hs hroom (fun j hj=>(by cases hj)) (fun j hj=>(by cases hj))
 | none=>
  rcases hs.kind with ⟨e',hk⟩ | hk<;>simp[Builtin.append_,run_underlying ht,run_underlying hk,sizeOf,typeInfo,hi,hs.len,show n≤c from hroom,hs.cells]
theorem sl_appendA (w:World) (t tx ty e:TypeId) (i:TypeInfo) (z:Value) (sz bytes:Nat) (ht:P.underlying t=some (.slice e)) (hi:P.info? e=some i) (hz:i.zero=some z) (hsize:i.size=sz) (hby:i.bytes=bytes) (hzs:z.cells.size=sz)
  {A:Option Addr} {n c:Nat} {xs:List Value} (h:SL w e sz A n c xs) (x:Value) (m:Nat) (news:List Value) (hs:Src P sz tx x m news w) (h63:n+m≤maxLen) (hbytes:(n+m)*bytes≤140737488355328) :
  ∃A' c' w',(Builtin.append_ #[t,tx] ty #[.slice A n c,x]).run P w=.ok (.slice A' (n+m) c') w'∧SL w' e sz A' (n+m) c' (xs++news)∧KeepF (fun k=>∃a,A=some a∧k=a.block) w w'∧(∀a,A'=some a→(∃a',A=some a'∧a.block=a'.block)∨w.heap.size≤a.block):=by
 cases m with
 | succ m=>exact sl_append w t tx ty e i z sz bytes ht hi hz hsize hby hzs h x (m+1) news hs (by omega) h63 hbytes
 | zero=>
  have:news=[]:=List.eq_nil_of_length_eq_zero (by rw[hs.newsLen,Nat.zero_mul])
  subst this
  subst hsize
  refine⟨A,c,w,sl_append0 w t tx ty e i ht hi h x hs,by rw[List.append_nil];exact h,KeepF.refl,fun a ha=>.inl ⟨a,ha,rfl⟩⟩
theorem wp_sl_appendA {o:Oper} {a:Act} {K:Act→World→Prop} {Q:Exit→Act→World→Prop} (s x:Operand) (t tx:TypeId) (ho:o.op=.call { callee:=.builtin .append,args:=#[s,x],argTypes:=#[t,tx] })
  (w:World) (e:TypeId) (i:TypeInfo) (z:Value) (sz bytes:Nat) (ht:P.underlying t=some (.slice e)) (hi:P.info? e=some i) (hz:i.zero=some z) (hsize:i.size=sz) (hby:i.bytes=bytes) (hzs:z.cells.size=sz)
  (A:Option Addr) (n c:Nat) (xs:List Value) (hsv:a.eval s=.slice A n c) (h:SL w e sz A n c xs) (xv:Value) (hxv:a.eval x=xv) (m:Nat) (news:List Value) (hs:Src P sz tx xv m news w) (h63:n+m≤maxLen) (hbytes:(n+m)*bytes≤140737488355328)
  (hK:∀A' c' w',SL w' e sz A' (n+m) c' (xs++news)→KeepF (fun k=>∃a,A=some a∧k=a.block) w w'→(∀a,A'=some a→(∃a',A=some a'∧a.block=a'.block)∨w.heap.size≤a.block)→K (a.put o.dst (.slice A' (n+m) c')) w'):o.wp P a w K Q:=by
 obtain⟨A',c',w',hrun,h1,h2,h3⟩:=sl_appendA w t tx o.type e i z sz bytes ht hi hz hsize hby hzs h xv m news hs h63 hbytes
 unfold Oper.wp execOp
 simp only[ho,resolve,invoke,builtin,Sem.run_bind,Sem.run_pure,Result.andThen_ok,List.map_toArray,List.map_cons,List.map_nil,hsv,hxv,hrun]
 exact hK A' c' w' h1 h2 h3
end
end Go.Proofs.YtjanmleoomoedaaGreat
namespace Go.Proofs.YtjanmleoomoedaaGreat
open Go.RowKit Go.ChangeShapes Go.WideShapes
theorem open_bytes_row {H:Type} {enc:TypeId×Value→H} {w:World} {base:Nat} {spare:Nat→Bool} {held:Bool} {fuel:Nat} {v:Value} {x:DataW H×List MemPlace} (h:DataW.trod enc Tryz.prog w base spare held fuel 46 [v] = some x) (hsp:∀b,spare b=true) :
  ∃a len cap zs,v=.slice a len cap∧IsRow .u8 w a len cap zs:=by
 rcases open_ints Tryz.underlying46 Tryz.underlying5 (by kernel_rfl) h with ⟨hcs,_⟩ | ⟨x,l,c,zs,hcs,_,hl,hm,hz,_,hcell,hwz⟩
 ·simp at hcs
  subst hcs
  exact⟨none,0,0,[],rfl,.inl ⟨rfl,rfl,rfl,rfl⟩⟩
 ·simp at hcs
  subst hcs
  rw[if_pos (hsp _)]at hz
  exact⟨some x,l,c,zs,rfl,.inr ⟨x,rfl,hl,hm,hz,hcell,hwz⟩⟩
theorem open_cnts {H:Type} {enc:TypeId×Value→H} {w:World} {base:Nat} {spare:Nat→Bool} {held:Bool} {fuel:Nat} {a:Option Addr} {len cap:Nat} {x:DataW H×List MemPlace}
  (h:DataW.trod enc Tryz.prog w base spare held fuel 27 [.slice a len cap] = some x) (hsp:∀b,spare b=true) :
  len≤maxLen∧len≤cap∧∃ct PA pn pc z,Cnts w a len ct PA pn pc z:=by
 rcases Go.Deep.open_slice_pairs Tryz.underlying27 Tryz.underlying52 (by kernel_rfl) rfl rfl (by kernel_rfl) (by kernel_rfl) h with ⟨hcs,_⟩ | ⟨ad,l,c,m,n,V0,V1,D0,D1,P0,P1,hcs,_,hl,hm,hmm,_,hf⟩
 ·simp at hcs
  obtain⟨rfl,rfl,rfl⟩:=hcs
  exact⟨by unfold maxLen;omega,Nat.le_refl _,fun _=>0,fun _=>none,fun _=>0,fun _=>0,fun _ _=>0,⟨fun h=>absurd rfl h,fun k hk=>by omega,fun k hk=>by omega,fun k hk=>by omega,fun k hk=>by omega,fun k hk=>by omega⟩⟩
 ·simp at hcs
  obtain⟨rfl,rfl,rfl⟩:=hcs
  rw[if_pos (hsp _)]at hmm
  subst hmm
  have h0:∀i,∃q:Int,i < len→V0 i=.int .u32 q∧(Lit.int .u32 q).wf=true:=fun i=>by
   by_cases hi:i < len
   ·obtain⟨q,hq,_,hw⟩:=DataW.trod_int Tryz.underlying26 (hf i (by omega)).2.2.1
    exact⟨q,fun _=>⟨by simpa using hq,hw⟩⟩
   ·exact⟨0,fun h=>absurd h hi⟩
  have h1:∀i,∃q:Option Addr×Nat×Nat×List Int,i < len→V1 i=.slice q.1 q.2.1 q.2.2.1∧IsRow .u8 w q.1 q.2.1 q.2.2.1 q.2.2.2:=fun i=>by
   by_cases hi:i < len
   ·obtain⟨a,l,c,zs,hv,hr⟩:=open_bytes_row (hf i (by omega)).2.2.2 hsp
    exact⟨(a,l,c,zs),fun _=>⟨hv,hr⟩⟩
   ·exact⟨(none,0,0,[]),fun h=>absurd h hi⟩
  obtain⟨q0,hq0⟩:=Classical.axiomOfChoice h0
  obtain⟨q1,hq1⟩:=Classical.axiomOfChoice h1
  refine⟨by omega,hl,q0,fun k=>(q1 k).1,fun k=>(q1 k).2.1,fun k=>(q1 k).2.2.1,fun k j=>(q1 k).2.2.2.getD j 0,⟨fun hn=>?_,fun k hk=>by
   have h2:=(by simpa[Lit.wf]using (hq0 k hk).2:IntKind.u32.min≤q0 k∧q0 k≤IntKind.u32.max)
   rw[show IntKind.u32.min=0 from rfl,show IntKind.u32.max=4294967295 from rfl]at h2
   omega,fun k hk=>by
   rcases (hq1 k hk).2 with ⟨_,h0,_⟩ | ⟨_,_,hl2,hm2,_⟩
   ·show(q1 k).2.1≤_
    omega
   ·show(q1 k).2.1≤_
    unfold maxLen at hm2
    omega,fun k hk=>(isRow_u8 (hq1 k hk).2).1,fun k hk=>(isRow_u8 (hq1 k hk).2).2,fun k hk=>isRow_row (hq1 k hk).2⟩⟩
  ·obtain⟨b,off,spot⟩:=ad
   have c0:=(hf 0 (by omega)).1
   have hspot:spot=none:=by simpa[Addr.add]using World.cell?_spot c0
   subst hspot
   have hadd:∀j,(⟨b,off,none⟩:Addr).add j=⟨b,off+j,none⟩:=fun j=>by unfold Addr.add;split<;>simp_all
   refine⟨b,off,rfl,?_,fun k hk=>?_⟩
   ·rw[hadd]at c0
    exact World.block_lt_of_cell? w _ c0
   ·obtain⟨e0,e1,_,_⟩:=hf k (by omega)
    rw[hadd]at e0 e1
    rw[(hq0 k hk).1]at e0
    rw[(hq1 k hk).1]at e1
    exact⟨e0,e1⟩
theorem open_brows {H:Type} {enc:TypeId×Value→H} {w:World} {base:Nat} {spare:Nat→Bool} {held:Bool} {fuel:Nat} {a:Option Addr} {len cap:Nat} {x:DataW H×List MemPlace}
  (h:DataW.trod enc Tryz.prog w base spare held fuel 28 [.slice a len cap] = some x) (hsp:∀b,spare b=true) :
  len≤maxLen∧len≤cap∧∃PA pn pc z,BRows w a len PA pn pc z:=by
 rcases Go.Deep.open_slice Tryz.underlying28 h with ⟨hcs,_⟩ | ⟨ad,l,c,m,n,D,Pl,hcs,_,hl,hm,hmm,_,hf⟩
 ·simp at hcs
  obtain⟨rfl,rfl,rfl⟩:=hcs
  exact⟨by unfold maxLen;omega,Nat.le_refl _,fun _=>none,fun _=>0,fun _=>0,fun _ _=>0,⟨fun h=>absurd rfl h,fun k hk=>by omega,fun k hk=>by omega,fun k hk=>by omega,fun k hk=>by omega⟩⟩
 ·simp at hcs
  obtain⟨rfl,rfl,rfl⟩:=hcs
  rw[if_pos (hsp _)]at hmm
  subst hmm
  have c1:Tryz.prog.cellsOf 46 = 1:=by kernel_rfl
  have h1:∀i,∃q:Option Addr×Nat×Nat×List Int,i < len→w.cell? (ad.add i)=some (.slice q.1 q.2.1 q.2.2.1)∧IsRow .u8 w q.1 q.2.1 q.2.2.1 q.2.2.2:=fun i=>by
   by_cases hi:i < len
   ·obtain⟨cs',g1,g2⟩:=hf i (by omega)
    rw[c1,Nat.mul_one]at g1
    obtain⟨_,hlen,hcell⟩:=World.cells?_some g1
    match cs',hlen with
    | [v],_=>
     obtain⟨a,l,c,zs,hv,hr⟩:=open_bytes_row (v:=v) g2 hsp
     have hc0:=hcell 0 (by omega)
     simp at hc0
     exact⟨(a,l,c,zs),fun _=>⟨by rw[←hv];simpa[Addr.add]using hc0,hr⟩⟩
   ·exact⟨(none,0,0,[]),fun h=>absurd h hi⟩
  obtain⟨q1,hq1⟩:=Classical.axiomOfChoice h1
  refine⟨by omega,hl,fun k=>(q1 k).1,fun k=>(q1 k).2.1,fun k=>(q1 k).2.2.1,fun k j=>(q1 k).2.2.2.getD j 0,⟨fun hn=>?_,fun k hk=>Nat.le_trans (isRow_len (hq1 k hk).2) (by unfold maxLen;decide),fun k hk=>(isRow_u8 (hq1 k hk).2).1,fun k hk=>(isRow_u8 (hq1 k hk).2).2,fun k hk=>isRow_row (hq1 k hk).2⟩⟩
  obtain⟨b,off,spot⟩:=ad
  have c0:=(hq1 0 (by omega)).1
  have hspot:spot=none:=by simpa[Addr.add]using World.cell?_spot c0
  subst hspot
  have hadd:∀j,(⟨b,off,none⟩:Addr).add j=⟨b,off+j,none⟩:=fun j=>by unfold Addr.add;split<;>simp_all
  refine⟨b,off,rfl,?_,fun k hk=>?_⟩
  ·rw[hadd]at c0
   exact World.block_lt_of_cell? w _ c0
  ·have:=(hq1 k hk).1
   rwa [hadd]at this
set_option maxRecDepth 100000 in
theorem open_forward {H:Type} {enc:TypeId×Value→H} {w:World} {base:Nat} {spare:Nat→Bool} {held:Bool} {r:Reach} {b0:Nat} {v:Value} {d:DataW H} {p:List MemPlace}
  (hv:Value.okWide Tryz.prog w r b0 30 v) (h:DataW.Trod enc Tryz.prog w base spare held 30 v d p) (hsp:∀b,spare b=true) :
  ∃(x:Int) (us:Bool) (A A2:Option Addr) (m c mq c2:Nat) (ct:Nat→Int) (PA:Nat→Option Addr) (pn pc:Nat→Nat) (z:Nat→Nat→Int) (QA:Nat→Option Addr) (qn qc:Nat→Nat) (y:Nat→Nat→Int),v=.agg #[.int .u32 x,.bool us,.slice A m c,.slice A2 mq c2]∧(0≤x∧x < 4294967296)∧m≤maxLen∧mq≤maxLen∧Cnts w A m ct PA pn pc z∧BRows w A2 mq QA qn qc y:=by
 obtain⟨cs,rfl,hsz⟩:=okWide_struct Tryz.underlying30 hv
 have hc:Tryz.prog.cellsOf 30 = 4:=by kernel_rfl
 have h3:cs.size=4:=hsz.trans hc
 obtain⟨fuel,hf⟩:=h
 obtain⟨xs,n,_,_,_,hlen,hg⟩:=DataW.trod_struct Tryz.underlying30 hf
 have hx3:xs.length=4:=hlen
 have c1:Tryz.prog.cellsOf 26 = 1:=by kernel_rfl
 have c0:Tryz.prog.cellsOf 4 = 1:=by kernel_rfl
 have c2:Tryz.prog.cellsOf 27 = 1:=by kernel_rfl
 have c3:Tryz.prog.cellsOf 28 = 1:=by kernel_rfl
 obtain⟨l⟩:=cs
 match l,h3 with
 | [a,b,e,f],_=>
  have g0:DataW.trod enc Tryz.prog w base spare held n 26 (List.take (Tryz.prog.cellsOf 26) (List.drop 0 [a,b,e,f]))=xs[0]?:=hg 0 _ rfl
  have g1:DataW.trod enc Tryz.prog w base spare held n 4 (List.take (Tryz.prog.cellsOf 4) (List.drop 1 [a,b,e,f]))=xs[1]?:=hg 1 _ rfl
  have g2:DataW.trod enc Tryz.prog w base spare held n 27 (List.take (Tryz.prog.cellsOf 27) (List.drop 2 [a,b,e,f]))=xs[2]?:=hg 2 _ rfl
  have g3:DataW.trod enc Tryz.prog w base spare held n 28 (List.take (Tryz.prog.cellsOf 28) (List.drop 3 [a,b,e,f]))=xs[3]?:=hg 3 _ rfl
  rw[c1,List.getElem?_eq_getElem (by omega)]at g0
  rw[c0,List.getElem?_eq_getElem (by omega)]at g1
  rw[c2,List.getElem?_eq_getElem (by omega)]at g2
  rw[c3,List.getElem?_eq_getElem (by omega)]at g3
  obtain⟨x,e0,_,w0⟩:=DataW.trod_int Tryz.underlying26 g0
  obtain⟨us,e1,_⟩:=DataW.trod_bool Tryz.underlying4 g1
  simp at e0 e1 g2 g3
  subst e0 e1
  have u0:=(by simpa[Lit.wf]using w0:IntKind.u32.min≤x∧x≤IntKind.u32.max)
  rw[show IntKind.u32.min=0 from rfl,show IntKind.u32.max=4294967295 from rfl]at u0
  obtain⟨A,m,c,rfl⟩:∃A m c,e=.slice A m c:=by
   rcases Go.Deep.open_slice_pairs Tryz.underlying27 Tryz.underlying52 (by kernel_rfl) rfl rfl (by kernel_rfl) (by kernel_rfl) g2 with ⟨hcs,_⟩ | ⟨ad,l,c,m,n,V0,V1,D0,D1,P0,P1,hcs,_⟩
   ·simp at hcs;exact⟨_,_,_,hcs⟩
   ·simp at hcs;exact⟨_,_,_,hcs⟩
  obtain⟨A2,mq,c2',rfl⟩:∃A m c,f=.slice A m c:=by
   rcases Go.Deep.open_slice Tryz.underlying28 g3 with ⟨hcs,_⟩ | ⟨ad,l,c,m,n,D,Pl,hcs,_⟩
   ·simp at hcs;exact⟨_,_,_,hcs⟩
   ·simp at hcs;exact⟨_,_,_,hcs⟩
  obtain⟨hm,_,ct,PA,pn,pc,z,hC⟩:=open_cnts g2 hsp
  obtain⟨hmq,_,QA,qn,qc,y,hQ⟩:=open_brows g3 hsp
  exact⟨x,us,A,A2,m,c,mq,c2',ct,PA,pn,pc,z,QA,qn,qc,y,rfl,⟨u0.1,Int.lt_of_le_of_lt u0.2 (by decide)⟩,hm,hmq,hC,hQ⟩
end Go.Proofs.YtjanmleoomoedaaGreat
