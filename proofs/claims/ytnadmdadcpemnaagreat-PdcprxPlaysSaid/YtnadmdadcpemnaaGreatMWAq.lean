import Derived.Test.YtnadmdadcpemnaaGreatMSDq
import Derived.Test.YtnadmdadcpemnaaGreatMZOq
import Derived.Test.YtnadmdadcpemnaaGreatMDAq
import Derived.BigRegion
import Derived.BigQuiet
set_option maxRecDepth 100000
set_option maxHeartbeats 6400000
namespace Go.Proofs.YtnadmdadcpemnaaGreat
set_option linter.unusedVariables false
set_option linter.unusedSimpArgs false
open Go.RowKit
def vTail (now d nx:Int) (q:Value) (run:Bool) (lim ex:Int) (u:Value) (dup:Int):Array Value:=#[.int .i64 now,.int .u64 d,.int .u64 nx,q,.bool run,.int .u64 lim,.int .i64 ex,u,.int .i64 dup]
def vArr (C:Array Value) (now d nx:Int) (q:Value) (run:Bool) (lim ex:Int) (u:Value) (dup:Int):Array Value:=C++vTail now d nx q run lim ex u dup
section
variable {C:Array Value} {now d nx:Int} {q:Value} {run:Bool} {lim ex:Int} {u:Value} {dup:Int}
theorem vArr_size (hC:C.size=39):(vArr C now d nx q run lim ex u dup).size=48:=by simp[vArr,vTail,hC]
theorem vArr_low (hC:C.size=39) {j:Nat} (hj:j < 39):(vArr C now d nx q run lim ex u dup)[j]? = C[j]?:=by
 unfold vArr;rw[Array.getElem?_append_left (by omega)]
theorem vArr_high (hC:C.size=39) (j:Nat):(vArr C now d nx q run lim ex u dup)[39+j]? = (vTail now d nx q run lim ex u dup)[j]?:=by
 unfold vArr;rw[Array.getElem?_append_right (by omega),hC,show 39+j-39=j by omega]
theorem vArr_set (hC:C.size=39) (j:Nat) (v:Value):(vArr C now d nx q run lim ex u dup).setIfInBounds (39+j) v=C++(vTail now d nx q run lim ex u dup).setIfInBounds j v:=by
 unfold vArr;rw[Array.setIfInBounds_append_right (by omega),hC,show 39+j-39=j by omega]
theorem vArr_now (hC:C.size=39) (x:Int):(vArr C now d nx q run lim ex u dup).setIfInBounds 39 (.int .i64 x)=vArr C x d nx q run lim ex u dup:=vArr_set hC 0 _
theorem vArr_d (hC:C.size=39) (x:Int):(vArr C now d nx q run lim ex u dup).setIfInBounds 40 (.int .u64 x)=vArr C now x nx q run lim ex u dup:=vArr_set hC 1 _
theorem vArr_nx (hC:C.size=39) (x:Int):(vArr C now d nx q run lim ex u dup).setIfInBounds 41 (.int .u64 x)=vArr C now d x q run lim ex u dup:=vArr_set hC 2 _
theorem vArr_q (hC:C.size=39) (x:Value):(vArr C now d nx q run lim ex u dup).setIfInBounds 42 x=vArr C now d nx x run lim ex u dup:=vArr_set hC 3 _
theorem vArr_run (hC:C.size=39) (x:Bool):(vArr C now d nx q run lim ex u dup).setIfInBounds 43 (.bool x)=vArr C now d nx q x lim ex u dup:=vArr_set hC 4 _
theorem vArr_lim (hC:C.size=39) (x:Int):(vArr C now d nx q run lim ex u dup).setIfInBounds 44 (.int .u64 x)=vArr C now d nx q run x ex u dup:=vArr_set hC 5 _
theorem vArr_ex (hC:C.size=39) (x:Int):(vArr C now d nx q run lim ex u dup).setIfInBounds 45 (.int .i64 x)=vArr C now d nx q run lim x u dup:=vArr_set hC 6 _
theorem vArr_u (hC:C.size=39) (x:Value):(vArr C now d nx q run lim ex u dup).setIfInBounds 46 x=vArr C now d nx q run lim ex x dup:=vArr_set hC 7 _
theorem vArr_dup (hC:C.size=39) (x:Int):(vArr C now d nx q run lim ex u dup).setIfInBounds 47 (.int .i64 x)=vArr C now d nx q run lim ex u x:=vArr_set hC 8 _
end
def vkCells (k:Nat->Int):List Value:=(kArr k).toList
theorem vkCells_len (k:Nat->Int):(vkCells k).length=16:=rfl
structure VM (w:World) (h:Nat) (s:RS) (U:List (Nat->Int)) (M R:Nat->Prop) (A:Option Addr) (c:Nat) (l:List SE) (uA:Option Addr) (uc:Nat):Prop where
 blk:Blk w h 97 (vArr s.C.arr s.now s.deliver s.next (.slice A l.length c) s.run s.limit s.expiry (.slice uA U.length uc) s.dup)
 lv:l.map (·.v)=s.L
 uv:s.used=U.map kArr
 st:SL w 77 2 A l.length c (l.flatMap SE.cc)
 us:SL w 23 16 uA U.length uc (U.flatMap vkCells)
 ris:Rising l
 rng:∀e,e∈l->s.deliver<=e.v.ct/\e.v.ct < s.next
 pk:∀e,e∈l->Pkt w R e.A e.v.n e.c e.v.z
 ok:s.Ok
 mh:M h
 ma:∀a,A=some a->M a.block
 mu:∀a,uA=some a->M a.block
 dis:∀k,M k->R k->False
 min:∀k,M k->k < w.heap.size
 rin:∀k,R k->k < w.heap.size
section
variable {w w':World} {h:Nat} {s s':RS} {U:List (Nat->Int)} {M R M' R' F:Nat->Prop} {A A':Option Addr} {c c':Nat} {l l':List SE} {uA:Option Addr} {uc:Nat}
theorem VM.keepF (m:VM w h s U M R A c l uA uc) (hk:KeepF F w w') (hF:∀k,F k->¬M k/\¬R k):VM w' h s U M R A c l uA uc:=
 ⟨hk.blk m.blk (fun hf=>(hF _ hf).1 m.mh),m.lv,m.uv,m.st.keepF hk (fun a e hf=>(hF _ hf).1 (m.ma a e)),m.us.keepF hk (fun a e hf=>(hF _ hf).1 (m.mu a e)),m.ris,m.rng,fun e he=>(m.pk e he).keep hk (fun k hf=>(hF k hf).2),m.ok,m.mh,m.ma,m.mu,m.dis,fun k hk'=>Nat.lt_of_lt_of_le (m.min k hk') hk.size,fun k hk'=>Nat.lt_of_lt_of_le (m.rin k hk') hk.size⟩
theorem VM.below (m:VM w h s U M R A c l uA uc) (hb:Below w.heap.size w w'):VM w' h s U M R A c l uA uc:=
 m.keepF (F:=fun _=>False) (KeepF.of_below hb) (fun _ hf=>hf.elim)
theorem VM.hi (m:VM w h s U M R A c l uA uc) (j:Nat):w.cell? ⟨h,39+j,none⟩=(vTail s.now s.deliver s.next (.slice A l.length c) s.run s.limit s.expiry (.slice uA U.length uc) s.dup)[j]?:=(m.blk.cell (39+j)).trans (vArr_high s.C.arr_size j)
theorem VM.cnow (m:VM w h s U M R A c l uA uc):w.cell? ⟨h,39,none⟩=some (.int .i64 s.now):=m.hi 0
theorem VM.cd (m:VM w h s U M R A c l uA uc):w.cell? ⟨h,40,none⟩=some (.int .u64 s.deliver):=m.hi 1
theorem VM.cnx (m:VM w h s U M R A c l uA uc):w.cell? ⟨h,41,none⟩=some (.int .u64 s.next):=m.hi 2
theorem VM.cq (m:VM w h s U M R A c l uA uc):w.cell? ⟨h,42,none⟩=some (.slice A l.length c):=m.hi 3
theorem VM.crun (m:VM w h s U M R A c l uA uc):w.cell? ⟨h,43,none⟩=some (.bool s.run):=m.hi 4
theorem VM.clim (m:VM w h s U M R A c l uA uc):w.cell? ⟨h,44,none⟩=some (.int .u64 s.limit):=m.hi 5
theorem VM.cex (m:VM w h s U M R A c l uA uc):w.cell? ⟨h,45,none⟩=some (.int .i64 s.expiry):=m.hi 6
theorem VM.cu (m:VM w h s U M R A c l uA uc):w.cell? ⟨h,46,none⟩=some (.slice uA U.length uc):=m.hi 7
theorem VM.cdup (m:VM w h s U M R A c l uA uc):w.cell? ⟨h,47,none⟩=some (.int .i64 s.dup):=m.hi 8
theorem VM.cC (m:VM w h s U M R A c l uA uc) {j:Nat} (hj:j < 39):w.cell? ⟨h,j,none⟩=some (s.C.cell j):=(m.blk.cell j).trans ((vArr_low s.C.arr_size hj).trans (s.C.arr_at hj))
theorem VM.fr (m:VM w h s U M R A c l uA uc) (j:Nat):w.frozen? ⟨h,j,none⟩=false:=m.blk.frozen j
theorem VM.ha (m:VM w h s U M R A c l uA uc):∀a,A=some a->h ≠ a.block:=fun a ha=>by
 obtain⟨cur,hc⟩:=m.st.obj ha
 exact cells_ne m.blk hc (by decide)
theorem VM.hu (m:VM w h s U M R A c l uA uc):∀a,uA=some a->h ≠ a.block:=fun a ha=>by
 obtain⟨cur,hc⟩:=m.us.obj ha
 exact cells_ne m.blk hc (by decide)
theorem VM.au (m:VM w h s U M R A c l uA uc):∀a b,A=some a->uA=some b->a.block ≠ b.block:=fun a b ha hb=>by
 obtain⟨cur,hc⟩:=m.st.obj ha;obtain⟨cur2,hc2⟩:=m.us.obj hb
 exact cells_ne hc hc2 (by decide)
theorem VM.put (m:VM w h s U M R A c l uA uc) (hk:KeepF (fun k=>k=h) w w') (hb:Blk w' h 97 (vArr s'.C.arr s'.now s'.deliver s'.next (.slice A l.length c) s'.run s'.limit s'.expiry (.slice uA U.length uc) s'.dup)) (e1:s'.L=s.L) (e2:s'.used=s.used) (hr:∀e,e∈l->s'.deliver<=e.v.ct/\e.v.ct < s'.next) (hok:s'.Ok):VM w' h s' U M R A c l uA uc:=
 ⟨hb,by rw[e1];exact m.lv,by rw[e2];exact m.uv,m.st.keepF hk (fun a e hf=>m.ha a e hf.symm),m.us.keepF hk (fun a e hf=>m.hu a e hf.symm),m.ris,hr,fun e he=>(m.pk e he).keep hk (fun k hf hr=>m.dis k (by rw[hf];exact m.mh) hr),hok,m.mh,m.ma,m.mu,m.dis,fun k hk'=>Nat.lt_of_lt_of_le (m.min k hk') hk.size,fun k hk'=>Nat.lt_of_lt_of_le (m.rin k hk') hk.size⟩
theorem VM.setNow (m:VM w h s U M R A c l uA uc) (x:Int) (hx:0<=x/\x < 1073741824):VM (w.setCell ⟨h,39,none⟩ (.int .i64 x)) h { s with now:=x } U M R A c l uA uc:=
 m.put (s':={ s with now:=x }) (keep_set w h 39 _) (by rw[<-vArr_now s.C.arr_size];exact m.blk.set_ 39 _) rfl rfl m.rng ⟨hx,m.ok.deliver,m.ok.next,m.ok.limit,m.ok.expiry,m.ok.dup⟩
theorem VM.setD (m:VM w h s U M R A c l uA uc) (x:Int) (hx:0<=x/\x<=s.next) (hr:∀e,e∈l->x<=e.v.ct):VM (w.setCell ⟨h,40,none⟩ (.int .u64 x)) h { s with deliver:=x } U M R A c l uA uc:=
 m.put (s':={ s with deliver:=x }) (keep_set w h 40 _) (by rw[<-vArr_d s.C.arr_size];exact m.blk.set_ 40 _) rfl rfl (fun e he=>⟨hr e he,(m.rng e he).2⟩) ⟨m.ok.now,hx,m.ok.next,m.ok.limit,m.ok.expiry,m.ok.dup⟩
theorem VM.setRun (m:VM w h s U M R A c l uA uc) (x:Bool):VM (w.setCell ⟨h,43,none⟩ (.bool x)) h { s with run:=x } U M R A c l uA uc:=
 m.put (s':={ s with run:=x }) (keep_set w h 43 _) (by rw[<-vArr_run s.C.arr_size];exact m.blk.set_ 43 _) rfl rfl m.rng ⟨m.ok.now,m.ok.deliver,m.ok.next,m.ok.limit,m.ok.expiry,m.ok.dup⟩
theorem VM.setLim (m:VM w h s U M R A c l uA uc) (x:Int) (hx:0<=x/\x<=s.next):VM (w.setCell ⟨h,44,none⟩ (.int .u64 x)) h { s with limit:=x } U M R A c l uA uc:=
 m.put (s':={ s with limit:=x }) (keep_set w h 44 _) (by rw[<-vArr_lim s.C.arr_size];exact m.blk.set_ 44 _) rfl rfl m.rng ⟨m.ok.now,m.ok.deliver,m.ok.next,hx,m.ok.expiry,m.ok.dup⟩
theorem VM.setEx (m:VM w h s U M R A c l uA uc) (x:Int) (hx:0<=x/\x<=2147483648):VM (w.setCell ⟨h,45,none⟩ (.int .i64 x)) h { s with expiry:=x } U M R A c l uA uc:=
 m.put (s':={ s with expiry:=x }) (keep_set w h 45 _) (by rw[<-vArr_ex s.C.arr_size];exact m.blk.set_ 45 _) rfl rfl m.rng ⟨m.ok.now,m.ok.deliver,m.ok.next,m.ok.limit,hx,m.ok.dup⟩
theorem VM.setDup (m:VM w h s U M R A c l uA uc) (x:Int) (hx:0<=x/\x < 4611686018427387904):VM (w.setCell ⟨h,47,none⟩ (.int .i64 x)) h { s with dup:=x } U M R A c l uA uc:=
 m.put (s':={ s with dup:=x }) (keep_set w h 47 _) (by rw[<-vArr_dup s.C.arr_size];exact m.blk.set_ 47 _) rfl rfl m.rng ⟨m.ok.now,m.ok.deliver,m.ok.next,m.ok.limit,m.ok.expiry,hx⟩
theorem VM.setQ (m:VM w h s U M R A c l uA uc) (hs:SL w 77 2 A' l'.length c' (l'.flatMap SE.cc)) (hr:Rising l') (hg:∀e,e∈l'->s.deliver<=e.v.ct/\e.v.ct < s.next) (hp:∀e,e∈l'->Pkt w R e.A e.v.n e.c e.v.z) (hA:∀a,A'=some a->M a.block):VM (w.setCell ⟨h,42,none⟩ (.slice A' l'.length c')) h { s with L:=l'.map (·.v) } U M R A' c' l' uA uc:=by
 have hk:=keep_set w h 42 (.slice A' l'.length c');refine⟨by rw[<-vArr_q s.C.arr_size];exact m.blk.set_ 42 _,rfl,m.uv,hs.keepF hk (fun a e hf=>?_),m.us.keepF hk (fun a e hf=>m.hu a e hf.symm),hr,hg,fun e he=>(hp e he).keep hk (fun k hf hr=>m.dis k (by rw[hf];exact m.mh) hr),⟨m.ok.now,m.ok.deliver,m.ok.next,m.ok.limit,m.ok.expiry,m.ok.dup⟩,m.mh,hA,m.mu,m.dis,fun k hk'=>Nat.lt_of_lt_of_le (m.min k hk') hk.size,fun k hk'=>Nat.lt_of_lt_of_le (m.rin k hk') hk.size⟩;obtain⟨cur,hc⟩:=hs.obj e
 exact cells_ne m.blk hc (by decide) hf.symm
theorem VM.pcell (m:VM w h s U M R A c l uA uc) {k:Nat} {e:SE} (he:l[k]? = some e):∃b o,A=some ⟨b,o,none⟩/\b < w.heap.size/\w.cell? ⟨b,o+k*2,none⟩=some (.int .u32 e.v.ct)/\w.cell? ⟨b,o+k*2+1,none⟩=some (.slice e.A e.v.n e.c):=by
 have hk:k < l.length:=(List.getElem?_eq_some_iff.1 he).1;obtain⟨b,o,hA,hb⟩:=m.st.some_ (by omega);have c0:=m.st.cell hA (j:=k*2+0) (by omega);have c1:=m.st.cell hA (j:=k*2+1) (by omega);rw[flat_at SE.cc 2 SE.cclen l k _ e he (by omega)]at c0 c1
 exact⟨b,o,hA,hb,c0,c1⟩
end
end Go.Proofs.YtnadmdadcpemnaaGreat
namespace Go.Proofs.YtnadmdadcpemnaaGreat
set_option linter.unusedVariables false
set_option linter.unusedSimpArgs false
open Go.RowKit
attribute [local go_sem ↓] Go.wp_at_zero Go.wp_at_succ
theorem VM.drew_ {w:World} {h:Nat} {s:RS} {U:List (Nat->Int)} {M R:Nat->Prop} {A:Option Addr} {c:Nat} {l:List SE} {uA:Option Addr} {uc:Nat} (m:VM w h s U M R A c l uA uc):VM w.drew h s U M R A c l uA uc:=m.below (Below.refl _ _).drew
theorem vtimer_ok (g:Nat) (s:RS) (U:List (Nat->Int)) (W R:Nat->Prop) (A:Option Addr) (c:Nat) (l:List SE) (uA:Option Addr) (uc:Nat) (w:World) (h:VM w g s U W R A c l uA uc) (hro:0<=s.C.ro/\s.C.ro<=1073741824) :
  Calls Tryz.prog 81 #[.pointer (some ⟨g,0,none⟩)] w fun e w'=>e=.returned (.tuple #[])/\VM w' g s.timer U W R A c l uA uc/\KeepF (fun k=>k=g) w w':=by
 have HT:=zh h;have HRO:=zh hro;have c1:=h.crun;have c2:=h.cd;have c3:=h.clim;have f1:=h.fr 43;obtain⟨dl,hdl⟩:∃x,x=s.deliver:=⟨_,rfl⟩
 obtain⟨lm,hlm⟩:∃x,x=s.limit:=⟨_,rfl⟩
 rw[<-hdl]at c2;rw[<-hlm]at c3;have HE:=zh (And.intro hdl hlm);clear h hdl hlm hro
 cases hrn:s.run
 ·rw[hrn]at c1;have HRN:=zh hrn;clear hrn;go_enter Tryz.func81,Tryz.ntmps81;go_upto_region 0 with (fail)
  go_region;go_upto_region 2 with (fail)
  refine wp_let (fun V=>VM V g s U W R A c l uA uc/\KeepF (fun k=>k=g) w V) ⟨by first | exact HT.out | exact HT.out.drew_,KeepF.refl.drew⟩ ?_;rintro V ⟨tv,kv⟩;obtain⟨s1,hs1⟩:∃x,x=s:=⟨_,rfl⟩
  have HS:=zh (show s.timer=s1.start by unfold RS.timer;rw[stop_no (fun h=>by rw[HRN.out]at h;exact absurd h.1 (by decide)),hs1]);have HR1:=zh (show s1.run=false by first | (rw[hs1];done) | (rw[hs1];exact HRN.out));have HC1:=zh (show s1.C.ro=s.C.ro by rw[hs1]);rw[<-hs1]at tv;have TV:=zh tv;have KV:=zh kv;clear tv kv hs1 c1 c2 c3 f1;have d1:=TV.out.crun;rw[HR1.out]at d1;have d2:=TV.out.cd;have d3:=TV.out.cnx;have d4:=TV.out.cnow;have d5:V.cell? ⟨g,38,none⟩=some (.int .i64 s1.C.ro):=TV.out.cC (j:=38) (by decide);have e5:=TV.out.clim;have e6:=TV.out.cex;have f4:=TV.out.fr 43;have f5:=TV.out.fr 44;have f6:=TV.out.fr 45;have hro:=HRO.out;rw[<-HC1.out]at hro;have hnow:=TV.out.ok.now;have hnx:=TV.out.ok.next;have hdv:=TV.out.ok.deliver;obtain⟨ro,hroo⟩:∃x,x=s1.C.ro:=⟨_,rfl⟩
  obtain⟨dv,hdvv⟩:∃x,x=s1.deliver:=⟨_,rfl⟩
  obtain⟨nx,hnxx⟩:∃x,x=s1.next:=⟨_,rfl⟩
  obtain⟨nw,hnww⟩:∃x,x=s1.now:=⟨_,rfl⟩
  rw[<-hroo]at d5 hro;rw[<-hdvv]at d2 hdv;rw[<-hnxx]at d3 hdv hnx;rw[<-hnww]at d4 hnow;have HQ:=zh (And.intro hroo (And.intro hdvv (And.intro hnxx hnww)));clear hroo hdvv hnxx hnww;by_cases r1:0 < ro
  ·by_cases r2:dv < nx
   ·have T4:=TV.out.setRun true;have T5:=T4.setLim nx ⟨by omega,by rw[HQ.out.2.2.1];exact Int.le_refl _⟩;have T6:=zh (T5.setEx (nw+ro) ⟨by omega,by omega⟩);have K6:=zh (((KV.out.setCell (p:=⟨g,43,none⟩) rfl (.bool true)).setCell (p:=⟨g,44,none⟩) rfl (.int .u64 nx)).setCell (p:=⟨g,45,none⟩) rfl (.int .i64 (nw+ro)));have HX:=zh (show s.timer={ s1 with run:=true,limit:=nx,expiry:=nw+ro } by rw[HS.out,start_yes HR1.out (by rw[<-HQ.out.1];exact r1) (by rw[<-HQ.out.2.1,<-HQ.out.2.2.1];exact r2),<-HQ.out.1,<-HQ.out.2.2.1,<-HQ.out.2.2.2]);have ww:IntKind.i64.wrap (nw+ro)=nw+ro:=by simp[IntKind.wrap_i64];omega
    clear T4 T5 hdv hnow hro hnx;go_region;go_upto_region 3 with (fail)
    go_region;go_wp2;go_end0
    exact⟨rfl,by rw[HX.out];first | exact T6.out | exact T6.out.drew_ | exact T6.out.drew_.drew_ | exact T6.out.drew_.drew_.drew_,by first | exact K6.out | exact K6.out.drew | exact K6.out.drew.drew | exact K6.out.drew.drew.drew⟩
   ·have HX:=zh (show s.timer=s1 by rw[HS.out,start_no (fun h=>r2 (by rw[HQ.out.2.1,HQ.out.2.2.1];exact h.2.2))]);go_region;go_wp2;go_end0
    exact⟨rfl,by rw[HX.out];first | exact TV.out | exact TV.out.drew_ | exact TV.out.drew_.drew_ | exact TV.out.drew_.drew_.drew_,by first | exact KV.out | exact KV.out.drew | exact KV.out.drew.drew | exact KV.out.drew.drew.drew⟩
  ·have HX:=zh (show s.timer=s1 by rw[HS.out,start_no (fun h=>r1 (by rw[HQ.out.1];exact h.2.1))]);go_region;go_wp2;go_end0
   exact⟨rfl,by rw[HX.out];first | exact TV.out | exact TV.out.drew_ | exact TV.out.drew_.drew_ | exact TV.out.drew_.drew_.drew_,by first | exact KV.out | exact KV.out.drew | exact KV.out.drew.drew | exact KV.out.drew.drew.drew⟩
 ·rw[hrn]at c1;have HRN:=zh hrn;clear hrn;by_cases t1:lm<=dl
  ·have T1:=zh (HT.out.setRun false);have K1:=zh (keep_set w g 43 (.bool false));go_enter Tryz.func81,Tryz.ntmps81;go_upto_region 0 with (fail)
   go_region;go_upto_region 2 with (fail)
   refine wp_let (fun V=>VM V g { s with run:=false } U W R A c l uA uc/\KeepF (fun k=>k=g) w V) ⟨by first | exact T1.out | exact T1.out.drew_,by first | exact K1.out | exact K1.out.drew⟩ ?_;rintro V ⟨tv,kv⟩;obtain⟨s1,hs1⟩:∃x,x={ s with run:=false }:=⟨_,rfl⟩
   have HS:=zh (show s.timer=s1.start by unfold RS.timer;rw[stop_yes HRN.out (by rw[<-HE.out.1,<-HE.out.2];exact t1),hs1]);have HR1:=zh (show s1.run=false by first | (rw[hs1];done) | (rw[hs1];exact rfl));have HC1:=zh (show s1.C.ro=s.C.ro by rw[hs1]);rw[<-hs1]at tv;have TV:=zh tv;have KV:=zh kv;clear tv kv hs1 c1 c2 c3 f1;have d1:=TV.out.crun;rw[HR1.out]at d1;have d2:=TV.out.cd;have d3:=TV.out.cnx;have d4:=TV.out.cnow;have d5:V.cell? ⟨g,38,none⟩=some (.int .i64 s1.C.ro):=TV.out.cC (j:=38) (by decide);have e5:=TV.out.clim;have e6:=TV.out.cex;have f4:=TV.out.fr 43;have f5:=TV.out.fr 44;have f6:=TV.out.fr 45;have hro:=HRO.out;rw[<-HC1.out]at hro;have hnow:=TV.out.ok.now;have hnx:=TV.out.ok.next;have hdv:=TV.out.ok.deliver;obtain⟨ro,hroo⟩:∃x,x=s1.C.ro:=⟨_,rfl⟩
   obtain⟨dv,hdvv⟩:∃x,x=s1.deliver:=⟨_,rfl⟩
   obtain⟨nx,hnxx⟩:∃x,x=s1.next:=⟨_,rfl⟩
   obtain⟨nw,hnww⟩:∃x,x=s1.now:=⟨_,rfl⟩
   rw[<-hroo]at d5 hro;rw[<-hdvv]at d2 hdv;rw[<-hnxx]at d3 hdv hnx;rw[<-hnww]at d4 hnow;have HQ:=zh (And.intro hroo (And.intro hdvv (And.intro hnxx hnww)));clear hroo hdvv hnxx hnww;by_cases r1:0 < ro
   ·by_cases r2:dv < nx
    ·have T4:=TV.out.setRun true;have T5:=T4.setLim nx ⟨by omega,by rw[HQ.out.2.2.1];exact Int.le_refl _⟩;have T6:=zh (T5.setEx (nw+ro) ⟨by omega,by omega⟩);have K6:=zh (((KV.out.setCell (p:=⟨g,43,none⟩) rfl (.bool true)).setCell (p:=⟨g,44,none⟩) rfl (.int .u64 nx)).setCell (p:=⟨g,45,none⟩) rfl (.int .i64 (nw+ro)));have HX:=zh (show s.timer={ s1 with run:=true,limit:=nx,expiry:=nw+ro } by rw[HS.out,start_yes HR1.out (by rw[<-HQ.out.1];exact r1) (by rw[<-HQ.out.2.1,<-HQ.out.2.2.1];exact r2),<-HQ.out.1,<-HQ.out.2.2.1,<-HQ.out.2.2.2]);have ww:IntKind.i64.wrap (nw+ro)=nw+ro:=by simp[IntKind.wrap_i64];omega
     clear T4 T5 hdv hnow hro hnx;go_region;go_upto_region 3 with (fail)
     go_region;go_wp2;go_end0
     exact⟨rfl,by rw[HX.out];first | exact T6.out | exact T6.out.drew_ | exact T6.out.drew_.drew_ | exact T6.out.drew_.drew_.drew_,by first | exact K6.out | exact K6.out.drew | exact K6.out.drew.drew | exact K6.out.drew.drew.drew⟩
    ·have HX:=zh (show s.timer=s1 by rw[HS.out,start_no (fun h=>r2 (by rw[HQ.out.2.1,HQ.out.2.2.1];exact h.2.2))]);go_region;go_wp2;go_end0
     exact⟨rfl,by rw[HX.out];first | exact TV.out | exact TV.out.drew_ | exact TV.out.drew_.drew_ | exact TV.out.drew_.drew_.drew_,by first | exact KV.out | exact KV.out.drew | exact KV.out.drew.drew | exact KV.out.drew.drew.drew⟩
   ·have HX:=zh (show s.timer=s1 by rw[HS.out,start_no (fun h=>r1 (by rw[HQ.out.1];exact h.2.1))]);go_region;go_wp2;go_end0
    exact⟨rfl,by rw[HX.out];first | exact TV.out | exact TV.out.drew_ | exact TV.out.drew_.drew_ | exact TV.out.drew_.drew_.drew_,by first | exact KV.out | exact KV.out.drew | exact KV.out.drew.drew | exact KV.out.drew.drew.drew⟩
  ·have HX:=zh (show s.timer=s by unfold RS.timer;rw[stop_no (fun h=>t1 (by rw[HE.out.1,HE.out.2];exact h.2)),start_no (fun h=>by rw[HRN.out]at h;exact absurd h.1 (by decide))]);go_enter Tryz.func81,Tryz.ntmps81;go_upto_region 0 with (fail)
   go_region;go_upto_region 2 with (fail)
   go_region;go_wp2;go_end0
   exact⟨rfl,by rw[HX.out];first | exact HT.out.drew_ | exact HT.out.drew_.drew_,by first | exact KeepF.refl.drew | exact KeepF.refl.drew.drew⟩
def sliceLen:Value->Nat
 | .slice _ n _=>n
 | _=>0
theorem fromL_split:∀(pre rest:List SV) (d:Int),(∀(k:Nat) (e:SV),pre[k]? = some e->e.ct=d+(k:Int))->(∀(x:SV) (r:List SV),rest=x :: r->x.ct ≠ d+(pre.length:Int))->fromL (pre++rest) d=(pre,rest,d+(pre.length:Int))
 | [],rest,d,_,h=>by
  cases rest with
  | nil=>simp[fromL]
  | cons x r=>
   have:=h x r rfl;rw[List.nil_append];unfold fromL;rw[if_neg (by simpa using this)];simp
 | x :: p,rest,d,h1,h2=>by
  have h0:=h1 0 x rfl;have ih:=fromL_split p rest (d+1) (fun k e he=>by
   have:=h1 (k+1) e he;rw[this]
   push_cast
   omega) (fun y r hy=>by
   have:=h2 y r hy;simp only[List.length_cons]at this;intro e;apply this;rw[e]
   push_cast
   omega)
  rw[List.cons_append];unfold fromL;rw[if_pos (by simpa using h0),ih];simp only[List.length_cons];refine Prod.ext rfl (Prod.ext rfl ?_);show d+1+(p.length:Int)=d+((p.length+1:Nat):Int)
  push_cast
  omega
theorem drop_cc (l:List SE) (k:Nat):(l.flatMap SE.cc).drop (k*2)=(l.drop k).flatMap SE.cc:=by
 induction l generalizing k with
 | nil=>simp
 | cons x r ih=>
  cases k with
  | zero=>simp
  | succ k=>
   rw[List.flatMap_cons,List.drop_succ_cons,<-ih k];rw[show(k+1)*2=(SE.cc x).length+k*2 by rw[SE.cclen];omega];rw[List.drop_append,List.drop_eq_nil_of_le (by omega),Nat.add_sub_cancel_left,List.nil_append]
theorem rising_tail {x:SE} {r:List SE} (h:Rising (x :: r)):Rising r:=(List.pairwise_cons.1 h).2
theorem rising_head {x:SE} {r:List SE} (h:Rising (x :: r)):∀e,e∈r->x.v.ct < e.v.ct:=(List.pairwise_cons.1 h).1
def VRunO (w:World) (h:Nat) (s:RS) (U:List (Nat->Int)) (M R:Nat->Prop) (l:List SE) (uA:Option Addr) (uc:Nat) (e:Ending) (w':World):Prop:=
 ∃A2 c2 lo A' c' l',e=.returned (.slice A2 lo.length c2)/\OutM w' w.heap.size A2 c2 lo/\lo.map (·.v)=s.deliver_.1/\(∀x,x∈lo->x∈l)/\VM w' h s.deliver_.2 U M R A' c' l' uA uc/\l'.length<=l.length/\KeepF (fun k=>k=h) w w'
theorem vrun_ok (h:Nat) (s:RS) (U:List (Nat->Int)) (M R:Nat->Prop) (A:Option Addr) (c:Nat) (l:List SE) (uA:Option Addr) (uc:Nat) (w:World) (m:VM w h s U M R A c l uA uc) (hl:l.length<=250) :
  Calls Tryz.prog 80 #[.pointer (some ⟨h,0,none⟩)] w (VRunO w h s U M R l uA uc):=by
 obtain⟨i0,hi0,hz0,hz1,hz2⟩:=info_parts Tryz.infoSl;have HM:=zh m;have HL:=zh hl;clear m hl;go_enter Tryz.func80,Tryz.ntmps80;go_wp2;go_loopw [3] (fun v3 wr=>∃(pre rest:List SE) (A2:Option Addr) (c2:Nat) (A':Option Addr) (c':Nat),l=pre++rest/\v3=.slice A2 pre.length c2/\(∀(k:Nat) (e:SE),pre[k]? = some e->e.v.ct=s.deliver+(k:Int))/\VM wr h { s with L:=rest.map (·.v),deliver:=s.deliver+(pre.length:Int) } U M R A' c' rest uA uc/\SL wr 35 1 A2 pre.length c2 (pre.map SE.val)/\(∀a,A2=some a->w.heap.size<=a.block)/\KeepF (fun k=>k=h) w wr) (fun v3 _=>l.length-sliceLen v3)
 case atStart=>exact⟨[],l,none,0,A,c,rfl,rfl,fun k e he=>(by simp at he),by simpa[HM.out.lv]using HM.out,SL.nil _ _ _,fun a ha=>(by cases ha),KeepF.refl⟩
 case round=>
  obtain⟨pre,rest,A2,c2,A',c',hlp,rfl,hct,hm,hs2,hA2,hk⟩:=hrel;have HV:=zh hm;have HLP:=zh hlp;have HCT:=zh hct;have HS2:=zh hs2;have HA2:=zh hA2;have HK:=zh hk;have z42:=hm.cq;have z40:=hm.cd;have hdl:=hm.ok.deliver;have hnx:=hm.ok.next;have hfin:(∀(x:SE) (r:List SE),rest=x :: r->x.v.ct ≠ s.deliver+(pre.length:Int))->s.deliver_.1=pre.map (·.v)/\s.deliver_.2={ s with L:=rest.map (·.v),deliver:=s.deliver+(pre.length:Int) }:=fun hx=>by
   have hsL:s.L=pre.map (·.v)++rest.map (·.v):=by rw[<-HM.out.lv,hlp,List.map_append]
   have:=fromL_split (pre.map (·.v)) (rest.map (·.v)) s.deliver (fun k e he=>by
    rw[List.getElem?_map]at he
    cases hp:pre[k]? with
    | none=>rw[hp]at he;cases he
    | some y=>
     rw[hp]at he;obtain rfl:=Option.some.inj he
     exact hct k y hp) (fun x r hr=>by
    cases rest with
    | nil=>cases hr
    | cons y q=>
     injection hr with h1 h2
     rw[<-h1,List.length_map]
     exact hx y q rfl)
   rw[<-hsL,List.length_map]at this;unfold RS.deliver_;rw[this]
   exact⟨rfl,rfl⟩
  have HFIN:=zh hfin;clear hlp hct hm hs2 hA2 hk hfin
  cases rest with
  | nil=>
   simp only[List.length_nil]at z42;go_upto_region 2 with (fail)
   go_quiet (fail);go_wp2;go_ret;obtain⟨f1,f2⟩:=HFIN.out (fun x r hx=>by cases hx);refine⟨A2,c2,pre,A',c',[],rfl,⟨?_,HA2.out⟩,f1.symm,fun x hx=>by rw[HLP.out];exact List.mem_append.2 (.inl hx),by rw[f2];first | exact HV.out | exact HV.out.below (below_drewN (Below.refl _ _) _),Nat.zero_le _,?_⟩
   ·first | exact HS2.out | exact HS2.out.next (below_drewN (Below.refl _ _) _)
   ·first | exact HK.out | exact HK.out.trans (KeepF.of_below (below_drewN (Below.refl _ _) _)) (fun _ _ h=>h)
  | cons x r=>
   obtain⟨b,o,hAA,hb,k0,k1⟩:=HV.out.pcell (k:=0) (e:=x) rfl;rw[Nat.zero_mul,Nat.add_zero]at k0 k1;subst hAA;have hxr:=HV.out.rng x (by simp);have hbm:M b:=HV.out.ma _ rfl;obtain⟨D,hD⟩:∃D,D=s.deliver+(pre.length:Int):=⟨_,rfl⟩
   obtain⟨ct,hct⟩:∃ct,ct=x.v.ct:=⟨_,rfl⟩
   obtain⟨PA,hPA⟩:∃PA,PA=x.A:=⟨_,rfl⟩
   obtain⟨pn,hpn⟩:∃pn,pn=x.v.n:=⟨_,rfl⟩
   obtain⟨pq,hpq⟩:∃pq,pq=x.c:=⟨_,rfl⟩
   obtain⟨rl,hrl⟩:∃rl,rl=(x :: r).length:=⟨_,rfl⟩
   obtain⟨pl,hpl⟩:∃pl,pl=pre.length:=⟨_,rfl⟩
   have hlen:pl+rl<=250:=by
    have h1:=HL.out;rw[HLP.out,List.length_append,<-hrl,<-hpl]at h1
    exact h1
   have hr1:1<=rl:=by rw[hrl];simp
   have hxr1:D<=ct/\ct < s.next:=by rw[hD,hct];exact hxr
   have z40':wr.cell? ⟨h,40,none⟩=some (.int .u64 D):=by rw[hD];exact z40
   rw[<-hct]at k0;rw[<-hPA,<-hpn,<-hpq]at k1;rw[<-hrl]at z42;rw[<-hpl];have hdl0:0<=D/\D<=s.next:=by rw[hD];exact hdl
   have hnx0:s.next<=4294967296:=hnx;have wct:IntKind.u64.wrap ct=ct:=by simp[IntKind.wrap_u64];omega
   have hrl0:decide (0 < rl)=true:=decide_eq_true (by omega);have HLT:=zh (And.intro hD (And.intro hct (And.intro hPA (And.intro hpn (And.intro hpq (And.intro hrl hpl))))));have HBD:=zh (And.intro hlen (And.intro hr1 (And.intro hxr1 hdl0)));have HBM:=zh hbm;clear z40 hD hct hPA hpn hpq hrl hpl hxr hbm hlen hxr1;by_cases he:ct=D
   ·have hq:(ct == D)=true:=by simpa using he
    have HE:=zh he;clear he;go_upto_region 2 with (fail)
    go_quiet (fail);go_upto_region 3 with (fail)
    refine wp_let (fun X=>Below wr.heap.size wr X) (below_drewN (Below.refl _ _) _) ?_;rintro X hbX;have VX:=zh (HV.out.below hbX);have SX:=zh (HS2.out.next hbX);have KX:=zh (HK.out.trans (KeepF.of_below hbX) (fun _ _ h=>h));have y42:X.cell? ⟨h,42,none⟩=some (.slice (some ⟨b,o,none⟩) rl c'):=(hbX.cell (p:=⟨h,42,none⟩) HV.out.blk.lt).trans z42;have y1:X.cell? ⟨b,o+1,none⟩=some (.slice PA pn pq):=(hbX.cell (p:=⟨b,o+1,none⟩) hb).trans k1;rw[<-HLT.out.2.2.2.2.2.2]at SX;have p9:(rl:Int)<=250:=by have:=HBD.out.1;omega
    have p8:(1:Int)<=(rl:Int):=by have:=HBD.out.2.1;omega
    clear z42 z40' k0 k1 hbX hq;go_upto_region 4 with (refine wpList_sl_append rfl _ _ 34 34 rfl _ 35 i0 (.slice none 0 0) 1 24 Tryz.underlying34 hi0 hz0 hz1 hz2 rfl A2 pl c2 (pre.map SE.val) rfl (SX.out.next (bnA _)) (.slice (some ⟨X.heap.size,0,none⟩) 1 1) rfl 1 [.slice PA pn pq] (src_new X _ rfl) (by omega) (by have:=HBD.out.1;unfold maxLen;omega) (by have:=HBD.out.1;omega) ?_;intro A6 c6 V6 hs6 hk6 ha6;have HS6:=zh hs6;have HK6:=zh hk6;have HA6:=zh ha6;clear hs6 hk6 ha6)
    have hbA:Below X.heap.size X (X.alloc (.cells #[.slice PA pn pq] 35)):=bnA _;have hsz:w.heap.size<=X.heap.size:=KX.out.size;have hk6':KeepF (fun k=>w.heap.size<=k) X V6:=(KeepF.of_below hbA).trans HK6.out (fun k _ ⟨a,ha,e⟩=>by rw[e];exact HA2.out a ha);have V6M:=zh (VX.out.keepF hk6' (fun k hk=>⟨fun hm=>by have:=HM.out.min k hm;omega,fun hr=>by have:=HM.out.rin k hr;omega⟩));have hA6:∀a,A6=some a->w.heap.size<=a.block:=fun a ha=>by
     rcases HA6.out a ha with ⟨a',e,h1⟩ | h1
     ·rw[h1];exact HA2.out a' e
     ·have:=hbA.size;omega
    have HA6':=zh hA6;have K6:=zh (KX.out.trans hk6' (fun k hk h1=>by omega));have y42':V6.cell? ⟨h,42,none⟩=some (.slice (some ⟨b,o,none⟩) rl c'):=by rw[HLT.out.2.2.2.2.2.1];exact V6M.out.cq
    have f42:=V6M.out.fr 42;have hqm:=V6M.out.st.cmax;have hqle:=V6M.out.st.le;rw[<-HLT.out.2.2.2.2.2.1]at hqle;unfold maxLen at hqm;have q3:(rl:Int)<=(c':Int):=by omega
    have q4:(c':Int)<=9223372036854775807:=by omega
    obtain⟨QA,hQA⟩:∃QA:Option Addr,QA=if c'=1 then some ⟨b,o,none⟩ else some ⟨b,o+2,none⟩:=⟨_,rfl⟩
    have HQAB:=zh (show ∀a,QA=some a->a.block=b from fun a ha=>by rw[hQA]at ha;split at ha<;>(cases ha;rfl));have hdl2:r.length=rl-1:=by rw[HLT.out.2.2.2.2.2.1];simp
    have S4:SL V6 77 2 QA r.length (c'-1) (r.flatMap SE.cc):=by
     have hh:=V6M.out.st.drop 1 (by simp);rw[drop_cc,Nat.one_mul,<-hQA,<-HLT.out.2.2.2.2.2.1,<-hdl2]at hh
     exact hh
    have T4:=V6M.out.setQ (A':=QA) (c':=c'-1) (l':=r) S4 (rising_tail V6M.out.ris) (fun e he=>V6M.out.rng e (List.mem_cons_of_mem _ he)) (fun e he=>V6M.out.pk e (List.mem_cons_of_mem _ he)) (fun a ha=>by rw[HQAB.out a ha];exact HBM.out);rw[hdl2]at T4;have K4:=K6.out.trans (keep_set V6 h 42 (.slice QA (rl-1) (c'-1))) (fun _ _ h=>h);have S6:=HS6.out.keepF (keep_set V6 h 42 (.slice QA (rl-1) (c'-1))) (fun a ha e=>by have:=hA6 a ha;have:=HM.out.min _ HM.out.mh;omega);have HRI:=zh V6M.out.ris;clear y42 y1 V6M hk6' hbA hsz hA6 hqm hqle S4;go_upto_region 5 with (fail)
    rw[<-hQA];refine wp_let (fun Y=>VM Y h { s with L:=r.map (·.v),deliver:=s.deliver+(pre.length:Int) } U M R QA (c'-1) r uA uc/\KeepF (fun k=>k=h) w Y/\SL Y 35 1 A6 (pl+1) c6 (pre.map SE.val++[.slice PA pn pq])) ⟨T4,K4,S6⟩ ?_;rintro Y ⟨x1,x2,x3⟩;have TY:=zh x1;have KY:=zh x2;have SY:=zh x3;have y40:Y.cell? ⟨h,40,none⟩=some (.int .u64 D):=by rw[HLT.out.1];exact x1.cd
    have f40:=x1.fr 40;have hD1:D+1<=s.next:=by have:=HBD.out.2.2.1;have:=HE.out;omega
    have T5:=x1.setD (s.deliver+(pre.length:Int)+1) ⟨by have:=HBD.out.2.2.2;rw[HLT.out.1]at this;omega,by rw[<-HLT.out.1];exact hD1⟩ (fun e he=>by
     have h1:=rising_head HRI.out e he;rw[<-HLT.out.1,<-HE.out,HLT.out.2.1];omega)
    have K5:=x2.trans (keep_set Y h 40 (.int .u64 (D+1))) (fun _ _ h=>h);have S5:=x3.keepF (keep_set Y h 40 (.int .u64 (D+1))) (fun a ha e=>by have:=HA6'.out a ha;have:=HM.out.min _ HM.out.mh;omega);rw[<-HLT.out.1]at T5;have w64:IntKind.u64.wrap (D+1)=D+1:=by have:=HBD.out.2.2.2;rw[IntKind.wrap_u64];omega
    have HT5:=zh T5;have HK5:=zh K5;have HS5:=zh S5;clear x1 x2 x3 T4 K4 S6 hQA hdl2 y42' f42 q3 q4 T5 K5 S5 hD1;go_wp2;go_roundw
    case rel=>
     refine⟨pre++[x],r,A6,c6,QA,c'-1,by rw[HLP.out];simp,by rw[List.length_append,<-HLT.out.2.2.2.2.2.2];rfl,fun k e he=>?_,?_,?_,HA6'.out,HK5.out⟩
     ·rcases (by omega:k < pre.length\/k=pre.length\/pre.length < k)with h1 | h1 | h1
      ·rw[List.getElem?_append_left h1]at he
       exact HCT.out k e he
      ·rw[h1,List.getElem?_append_right (Nat.le_refl _),Nat.sub_self]at he;obtain rfl:x=e:=by simpa using he
       rw[<-HLT.out.2.1,HE.out,HLT.out.1,h1]
      ·rw[List.getElem?_eq_none (by simp;omega)]at he
       cases he
     ·have e1:(((pre++[x]).length:Nat):Int)=(pre.length:Int)+1:=by simp
      rw[e1,<-Int.add_assoc,<-HLT.out.1]
      exact HT5.out
     ·have e1:(pre++[x]).length=pl+1:=by rw[HLT.out.2.2.2.2.2.2];simp
      rw[e1,List.map_append];have e2:[x].map SE.val=[.slice PA pn pq]:=by rw[HLT.out.2.2.1,HLT.out.2.2.2.1,HLT.out.2.2.2.2.1];rfl
      rw[e2]
      exact HS5.out
    case measure=>
     have h1:=HL.out;have h2:l.length=pl+rl:=by rw[HLP.out,List.length_append,HLT.out.2.2.2.2.2.1,HLT.out.2.2.2.2.2.2]
     have h3:=HBD.out.2.1;simp only[sliceLen];omega
   ·have hq:(ct == D)=false:=by simpa using he
    have HE:=zh he;clear he;go_upto_region 2 with (fail)
    go_quiet (fail);go_wp2;go_ret;obtain⟨f1,f2⟩:=HFIN.out (fun y q hx=>by
     injection hx with h1 h2
     rw[<-h1,<-HLT.out.1,<-HLT.out.2.1]
     exact HE.out)
    rw[HLT.out.2.2.2.2.2.2];refine⟨A2,c2,pre,some ⟨b,o,none⟩,c',x :: r,rfl,⟨?_,HA2.out⟩,f1.symm,fun x hx=>by rw[HLP.out];exact List.mem_append.2 (.inl hx),by rw[f2];first | exact HV.out | exact HV.out.below (below_drewN (Below.refl _ _) _),by rw[HLP.out,List.length_append];omega,?_⟩
    ·first | exact HS2.out | exact HS2.out.next (below_drewN (Below.refl _ _) _)
    ·first | exact HK.out | exact HK.out.trans (KeepF.of_below (below_drewN (Below.refl _ _) _)) (fun _ _ h=>h)
end Go.Proofs.YtnadmdadcpemnaaGreat
