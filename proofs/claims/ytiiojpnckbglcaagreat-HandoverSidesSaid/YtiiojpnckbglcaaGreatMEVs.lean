import Derived.Test.YtiiojpnckbglcaaGreatMEQs
import Derived.Deep.RegionWith
import Derived.Deep.DeepCutAuto
import Derived.Deep.CutRange
import Derived.Deep.CutBlock
import Derived.StillTailTactics
import Derived.Deep.RegionHeld3
import Derived.Laws.StructEq
import Derived.ProofKit
import Derived.OpenShut
import Derived.ChangeOld
import Derived.Deep.Fields
import Derived.Deep.DrawnRows
set_option maxRecDepth 100000
set_option maxHeartbeats 8000000
set_option linter.unusedVariables false
set_option linter.unusedSimpArgs false
namespace Go.Proofs.YtiiojpnckbglcaaGreat
open Go.RowKit Go.Shelf
attribute [local go_sem] Oper.semAt_some
private theorem iWq7 (w:World):∀W,W=((w.alloc (.cells #[.int .i64 0,.int .i64 0,.int .i64 0,.int .i64 0,.int .i64 0,.int .i64 0,.int .i64 0,.int .i64 0,.int .i64 0] 176)).alloc (.cells #[.slice none 0 0] 44)).alloc (.cells #[.int .i64 0] 37)->
  ae W w.heap.size 176 (hdr (fun _=>0))/\ae W (w.heap.size+1) 44 #[.slice none 0 0]/\ae W (w.heap.size+1+1) 37 #[.int .i64 0]/\Below w.heap.size w W/\W.heap.size=w.heap.size+1+1+1:=by
 rintro W rfl;refine⟨((ae.new w 176 (hdr (fun _=>0))).alloc _).alloc _,?_,?_,(((Below.refl _ w).alloc ao _).alloc (by simp) _).alloc (by simp;omega) _,by simp⟩
 ·have:=(ae.new (w.alloc (.cells (hdr (fun _=>0)) 176)) 44 #[.slice none 0 0])
  rw[World.size_alloc]at this
  exact this.alloc _
 ·have:=(ae.new ((w.alloc (.cells (hdr (fun _=>0)) 176)).alloc (.cells #[.slice none 0 0] 44)) 37 #[.int .i64 0])
  rw[World.size_alloc,World.size_alloc]at this
  exact this
def yG (w:World) (A:Option Addr) (n:Nat) (z:Nat->Int) (l:Value) (W:World):Prop:=
 ∃B c,l=.slice B 10 c/\au W W.heap.size B 10 (fun j=>.int .u64 ((ef z (0+so iG j) (iG j):Nat):Int))/\au W w.heap.size A n (fun j=>.int .u8 (z j))/\
  ae W w.heap.size 176 (hdr (fun _=>0))/\ae W (w.heap.size+1) 44 #[.slice none 0 0]/\ae W (w.heap.size+1+1) 37 #[.int .i64 0]/\Below w.heap.size w W/\w.heap.size+1+1+1<=W.heap.size
theorem undrew {w w3:World} (h:Below w.drew.heap.size w.drew w3):Below w.heap.size w w3:=⟨h.os,h.tape,h.output,h.size,h.block⟩
theorem yl {w1 w3:World} {v:Value} {t:TypeId} (h:Below (w1.alloc (.cells #[v] t)).heap.size (w1.alloc (.cells #[v] t)) w3):w3.cell? ⟨w1.heap.size,0,none⟩=some v:=
 (ae.below (ae.new w1 t #[v]) h (by simp)).cell 0
theorem jR (w1:World) (v:Value) (t:TypeId):Calls Tryz.prog 130 #[] (w1.alloc (.cells #[v] t)).drew fun e w3=>
  ∃L c,e=.returned (.slice L 10 c)/\au w3 w3.heap.size L 10 (fun j=>.int .i64 (iG j:Nat))/\cj (w1.heap.size+1) L/\Below (w1.alloc (.cells #[v] t)).heap.size (w1.alloc (.cells #[v] t)) w3/\w3.cell? ⟨w1.heap.size,0,none⟩=some v:=by
 refine(sQ _).mono ?_;rintro e w3 ⟨L,c,rfl,hL,hf,hb⟩
 exact⟨L,c,rfl,hL,(by simpa using hf),undrew hb,yl (undrew hb)⟩
@[reducible] def onlyNormal (K:Act->World->Prop):Exit->Act->World->Prop
 | .normal,a,w=>K a w
 | _,_,_=>False
theorem eH {P:Program} {c:Code} {K:Act->World->Prop} {Q:Exit->Act->World->Prop} {a:Act} {w:World} (h:c.wp P (onlyNormal K) a w):c.wp P (Exit.then K Q) a w:=
 wp_mono h (by
  intro e a w h
  cases e with
  | normal=>exact h
  | _=>exact h.elim)
theorem df.new {w:World} {g:Nat} {A:Option Addr} {len cap p:Nat} {z:Nat->Int} (h:df w g A len cap z p) (o:Obj):df (w.alloc o) g A len cap z p:=⟨h.1.alloc o,bh h.2 o⟩
theorem df.on {w w':World} {g:Nat} {A:Option Addr} {len cap p:Nat} {z:Nat->Int} (h:df w g A len cap z p) (hb:Below w.heap.size w w'):df w' g A len cap z p:=⟨h.1.below hb h.1.lt,h.2.next hb⟩
theorem ns {base g:Nat} {L:Option Addr} (h:cj base L) (hg:g < base):∀a,L=some a->a.block ≠ g:=fun a e=>by
 have:=h a e;omega
theorem sW {w W w1 w3 w4:World} {A B:Option Addr} {n cB g:Nat} {z:Nat->Int} {o:Obj} (hW:W=((w.alloc (.cells #[.int .i64 0,.int .i64 0,.int .i64 0,.int .i64 0,.int .i64 0,.int .i64 0,.int .i64 0,.int .i64 0,.int .i64 0] 176)).alloc (.cells #[.slice none 0 0] 44)).alloc (.cells #[.int .i64 0] 37))
  (hb1:Below W.heap.size W w1) (hg:W.heap.size<=g) (hs1:w1.heap.size=g+1) (hb3:Below (w1.alloc o).heap.size (w1.alloc o) w3) (hR:au w4 w4.heap.size B 10 (fun j=>.int .u64 ((ef z (0+so iG j) (iG j):Nat):Int))) (hgr:w3.grownBy w4 (some g)) (hr:au w w.heap.size A n (fun j=>.int .u8 (z j))):yG w A n z (.slice B 10 cB) w4:=by
 obtain⟨t1,t2,t3,t4,t5⟩:=iWq7 w W hW;have s3:=hb3.size;rw[World.size_alloc]at s3;have Bel:Below W.heap.size W w4:=((hb1.alloc hb1.size o).trans (hb3.mono (by have:=hb1.size;simp;omega))).grown hgr (by omega) (fun k e=>by cases e;exact hg);have s4:=Bel.size
 exact⟨B,cB,rfl,hR,hr.below (t4.trans (Bel.mono (by omega))),t1.below Bel (by omega),t2.below Bel (by omega),t3.below Bel (by omega),t4.trans (Bel.mono (by omega)),by omega⟩
theorem lf (A:Option Addr) (n c:Nat) (z:Nat->Int) (hn:20<=n) (hm:n<=9000) (hz:∀j,j < n->0<=z j/\z j < 256) (hv:ef z 0 4 ≠ 5) (w:World) (hr:au w w.heap.size A n (fun j=>.int .u8 (z j))) :
  Calls Tryz.prog 106 #[.slice A n c] w (gQ w 9):=by
 have hmf:∀(fn:Fn) (first cap:Array Value) (w:World),(Instr.makeFunc fn first cap).run Tryz.prog w=.ok (.func fn first cap) w:=fun _ _ _ _=>rfl;have hn20:(20<=(n:Int)):=by omega
 have hn9:((n:Int)<=9000):=by omega
 have HR:=zh hr;have HZ:=zh hz;clear hr hz;go_enter_defers Tryz.func106,Tryz.ntmps106;go_upto_region 5 with (first | (go_at_call 127;refine(dH _ _).mono ?_;rintro e w1 ⟨rfl,rfl⟩) | (go_at_call 128;refine(iA A n c z (by omega) _ (by exact bh (bh (bh HR.out _) _) _)).mono ?_;rintro e w1 ⟨g,A2,c2,rfl,hg,hRS,hA2,hb1,hs1⟩;have HRS:=zh hRS;have HA2:=zh hA2;have HB1:=zh hb1;have HS1:=zh hs1;clear hRS hA2 hb1 hs1))
 go_cut [6]from 21 to 23 (fun l wx=>yG w A n z l wx)
 case first=>
  refine eH ?_;go_region_with (first | (go_at_call 130;refine(jR _ _ _).mono ?_;rintro e w3 ⟨L,lc,rfl,hL,hLf,hb3,c5⟩;have HL:=zh hL;have HLF:=zh hLf;have HB3:=zh hb3;clear hL hLf hb3) | (go_at_call 129;refine(tV g A2 L n c2 lc z (by omega) hn HZ.out (ns HLF.out (by rw[HS1.out];omega)) HA2.out _ ((df.new HRS.out _).on HB3.out) HL.out).mono ?_;rintro e w4 ⟨B,cB,rfl,hR4,hg4⟩;have HR4:=zh hR4;have HG4:=zh hg4;clear hR4 hg4))
  all_goals (dsimp only[onlyNormal];go_wp2;go_meet;exact sW rfl HB1.out (by simpa using hg) HS1.out HB3.out HR4.out HG4.out HR.out)
 case rest=>
  obtain⟨B,cB,rfl,hR,hrA,hbH,hbP,hbE,hbel,hsz⟩:=hcut;obtain⟨b,off,rfl,hbb,hcl⟩:=hR (by decide);have cl0:wc.cell? ⟨b,off,none⟩=some (.int .u64 ((ef z 0 4:Nat):Int)):=hcl 0 (by decide);obtain⟨F,hF⟩:=af (ef z 0 4)
  rw[<-hF]at cl0 hv;have hv1:¬((F:Int)=5):=by omega
  have hv2:((F:Int) == 5)=false:=by simp;omega
  have hv3:decide ((F:Int)=5)=false:=by simp;omega
  have HBH:=zh hbH;have HBP:=zh hbP;have HBE:=zh hbE;have HBL:=zh hbel;clear hR hrA hbH hbP hbE hbel hsz hcl hF hbb;go_wp2_with (go_at_call 127;refine(fy 9 _).mono ?_;rintro e w1 ⟨rfl,rfl⟩)
  exact gV w _ (fun _=>0) (.slice none 0 0) 0 9 w.heap.size _ rfl HBH.out HBP.out HBE.out HBL.out rfl rfl rfl
def aH (z:Nat->Int) (k:Nat):Nat:=ef z (0+so iG k) (iG k)
def aU (z:Nat->Int) (k j:Nat):Int:=if j+1 < k then ((aH z (j+1):Nat):Int) else 0
def uX (w:World) (n:Nat) (z:Nat->Int) (e:Ending) (w':World):Prop:=
 ∃P c,e=.returned (.tuple #[.agg (hdr (aU z 10)),.slice P (n-20:Nat) c,.int .i64 0])/\n-20<=c/\w'.ownsRow w.heap.size 5 1 (.slice P (n-20:Nat) c) (n-20) ((List.range (n-20)).map (fun j=>.int .u8 (z (20+j))))/\Below w.heap.size w w'
def wF (w:World) (n:Nat) (z:Nat->Int) (e:Ending) (w':World):Prop:=
 (aH z 9=n->uX w n z e w')/\(aH z 9 ≠ n->gQ w 9 e w')
structure cY (H f:Nat) (w w':World):Prop where
 os:w'.os=w.os
 tape:w'.tape=w.tape
 output:w'.output=w.output
 size:w.heap.size<=w'.heap.size
 block:∀i,i < w.heap.size->i ≠ H->i ≠ f->w'.heap[i]? = w.heap[i]?
theorem cY.refl (H f:Nat) (w:World):cY H f w w:=⟨rfl,rfl,rfl,Nat.le_refl _,fun _ _ _ _=>rfl⟩
theorem cY.alloc {H f:Nat} {w w':World} (h:cY H f w w') (o:Obj):cY H f w (w'.alloc o):=
 ⟨h.os,h.tape,h.output,by have:=h.size;simp;omega,fun i hi h1 h2=>(Below.heap_alloc _ _ _ (by have:=h.size;omega)).trans (h.block i hi h1 h2)⟩
theorem cY.drew {H f:Nat} {w w':World} (h:cY H f w w'):cY H f w w'.drew:=⟨h.os,h.tape,h.output,h.size,h.block⟩
theorem cY.set_ {H f:Nat} {w w':World} (h:cY H f w w') (p:Addr) (hp:p.block=H\/p.block=f) (u:Value):cY H f w (w'.setCell p u):=
 ⟨h.os,h.tape,h.output,by simpa using h.size,fun i hi h1 h2=>(Below.heap_setCell _ _ _ _ (by rcases hp with e | e<;>omega)).trans (h.block i hi h1 h2)⟩
theorem cY.below {H f b:Nat} {w0 w w':World} (h:cY H f w w') (hb:Below b w0 w) (h1:b<=H) (h2:b<=f) (hs:b<=w.heap.size):Below b w0 w':=
 ⟨h.os.trans hb.os,h.tape.trans hb.tape,h.output.trans hb.output,ba hb.size h.size,fun i hi=>(h.block i (by omega) (by omega) (by omega)).trans (hb.block i hi)⟩
theorem cY.blk {H f g:Nat} {t:TypeId} {cs:Array Value} {w w':World} (h:cY H f w w') (hB:ae w g t cs) (h1:g ≠ H) (h2:g ≠ f):ae w' g t cs:=(h.block g hB.lt h1 h2).trans hB
theorem cY.cell {H f:Nat} {w w':World} (h:cY H f w w') {p:Addr} (hp:p.block < w.heap.size) (h1:p.block ≠ H) (h2:p.block ≠ f):w'.cell? p=w.cell? p:=World.cell?_of_block (w:=w) (h.block p.block hp h1 h2)
theorem ie {w:World} {g:Nat} {t:TypeId} {cs:Array Value} {i:Nat} {u:Value} (h:ae w g t cs) (hi:cs[i]? = some u):w.setCell ⟨g,i,none⟩ u=w:=by
 have hs:=h.set_ i u;have e:cs.setIfInBounds i u=cs:=by
  apply Array.ext_getElem?;intro k;rw[Array.getElem?_setIfInBounds];by_cases hk:i=k
  ·subst hk;have hlt:i < cs.size:=by
    rcases Nat.lt_or_ge i cs.size with h1 | h1
    ·exact h1
    ·rw[Array.getElem?_eq_none h1]at hi;cases hi
   simp[hlt]at hi ⊢
   exact hi.symm
  ·simp[hk]
 have hh:(w.setCell ⟨g,i,none⟩ u).heap=w.heap:=by
  apply Array.ext_getElem?;intro k;by_cases hk:k=g
  ·subst hk;rw[e]at hs;exact hs.trans h.symm
  ·exact Below.heap_setCell w _ u k hk
 have h2:w.setCell ⟨g,i,none⟩ u={ w with heap:=(w.setCell ⟨g,i,none⟩ u).heap }:=rfl;rw[h2,hh]
theorem vS (lb lo n c:Nat) (h20:20<=n) (hnc:n<=c):∃lo2,(∀w,(Instr.slice 44 (.slice (some ⟨lb,lo,none⟩) n c) (some (.int .i64 20)) (some (.int .i64 (n:Int))) (some (.int .i64 (n:Int)))).run Tryz.prog w=.ok (.slice (some ⟨lb,lo2,none⟩) (n-20) (n-20)) w)/\(20 < n->lo2=lo+20):=by
 have hm0:(20:Int)<=(n:Int):=by omega
 have hm1:(n:Int)<=(c:Int):=by omega
 by_cases hc:n=20
 ·subst hc;have h1:¬((c:Int) < 20):=by omega
  exact⟨lo,fun w=>by simp[go_sem,h1],fun h=>by omega⟩
 ·exact⟨lo+20,fun w=>by simp[go_sem,hm0,hm1,hc],fun _=>rfl⟩
theorem na (R:Ending->World->Prop) (W:World) (h:Nat->Int) (P:Option Addr) (m k H:Nat) (tmps:Array Value) (hH:ae W H 176 (hdr h)) (hP:ae W (H+1) 44 #[.slice P m k]) (hE:ae W (H+1+1) 37 #[.int .i64 0]) (hR:R (.returned (.tuple #[.agg (hdr h),.slice P m k,.int .i64 0])) W)
  (h2:tmps.getD 2 undef=.pointer (some ⟨H,0,none⟩)) (h3:tmps.getD 3 undef=.pointer (some ⟨H+1,0,none⟩)) (h4:tmps.getD 4 undef=.pointer (some ⟨H+1+1,0,none⟩)) :
  bodyPostD Tryz.prog Tryz.f106 R Exit.ret
   { tmps:=tmps,defers:=[{ target:=.fn (.func 125) #[],args:=#[.pointer (some ⟨H+1+1,0,none⟩),.func (.func 126) #[] #[.pointer (some ⟨H,0,none⟩),.pointer (some ⟨H+1,0,none⟩)]] }] } W:=by
 refine leaves_cons (f:=125) (args:=#[.pointer (some ⟨H+1+1,0,none⟩),.func (.func 126) #[] #[.pointer (some ⟨H,0,none⟩),.pointer (some ⟨H+1,0,none⟩)]]) (by simp) (by simp[go_sem]) ?_;refine(mW _ _ W).mono ?_;rintro en u' w'' ⟨rfl,rfl,hw⟩;subst hw;have y0:w''.cell? ⟨H,0,none⟩=some (.int .i64 (h 0)):=hH.cell 0;have y1:w''.cell? ⟨H,1,none⟩=some (.int .i64 (h 1)):=hH.cell 1;have y2:w''.cell? ⟨H,2,none⟩=some (.int .i64 (h 2)):=hH.cell 2;have y3:w''.cell? ⟨H,3,none⟩=some (.int .i64 (h 3)):=hH.cell 3;have y4:w''.cell? ⟨H,4,none⟩=some (.int .i64 (h 4)):=hH.cell 4;have y5:w''.cell? ⟨H,5,none⟩=some (.int .i64 (h 5)):=hH.cell 5;have y6:w''.cell? ⟨H,6,none⟩=some (.int .i64 (h 6)):=hH.cell 6;have y7:w''.cell? ⟨H,7,none⟩=some (.int .i64 (h 7)):=hH.cell 7;have y8:w''.cell? ⟨H,8,none⟩=some (.int .i64 (h 8)):=hH.cell 8;have yp:w''.cell? ⟨H+1,0,none⟩=some (.slice P m k):=hP.cell 0;have ye:w''.cell? ⟨H+1+1,0,none⟩=some (.int .i64 0):=hE.cell 0;have HR:=zh hR;clear hH hP hE hR;simp at h2 h3 h4;simp[Leaves,settle,results,Tryz.results106,go_sem,h2,h3,h4,y0,y1,y2,y3,y4,y5,y6,y7,y8,yp,ye]
 exact HR.out
structure St (w:World) (A:Option Addr) (n:Nat) (z:Nat->Int) (W:World):Prop where
 hdr:ae W w.heap.size 176 (hdr (aU z 10))
 pay:∃v,ae W (w.heap.size+1) 44 #[v]
 err:ae W (w.heap.size+1+1) 37 #[.int .i64 0]
 row:au W w.heap.size A n (fun j=>.int .u8 (z j))
 below:Below w.heap.size w W
theorem St.setH {w W:World} {A:Option Addr} {n:Nat} {z:Nat->Int} (h:St w A n z W) (k:Nat) (hk:k < 9) {u:Value} (hu:u=.int .i64 (aU z 10 k)):W.setCell ⟨w.heap.size,k,none⟩ u=W:=
 ie h.hdr (by rw[uk _ k hk,hu])
theorem St.setE {w W:World} {A:Option Addr} {n:Nat} {z:Nat->Int} (h:St w A n z W):W.setCell ⟨w.heap.size+1+1,0,none⟩ (.int .i64 0)=W:=
 ie h.err rfl
theorem St.setP {w W:World} {A:Option Addr} {n:Nat} {z:Nat->Int} (h:St w A n z W) (v:Value):St w A n z (W.setCell ⟨w.heap.size+1,0,none⟩ v):=
 ⟨h.hdr.far (by simp) _,by obtain⟨u,hu⟩:=h.pay;exact⟨_,hu.set_ 0 v⟩,h.err.far (by simp) _,h.row.setCell (by simp) _,h.below.setCell (by simp) _⟩
theorem St.paid {w W:World} {A:Option Addr} {n:Nat} {z:Nat->Int} (h:St w A n z W) (v:Value):ae (W.setCell ⟨w.heap.size+1,0,none⟩ v) (w.heap.size+1) 44 #[v]:=by
 obtain⟨u,hu⟩:=h.pay
 exact hu.set_ 0 v
theorem St.clone {w W W1:World} {A:Option Addr} {n:Nat} {z:Nat->Int} (h:St w A n z W) (hb:Below W.heap.size W W1):St w A n z W1:=by
 have l1:=h.err.lt;obtain⟨u,hu⟩:=h.pay
 exact⟨h.hdr.below hb (by omega),⟨u,hu.below hb hu.lt⟩,h.err.below hb l1,h.row.below (hb.mono (by omega)),h.below.trans (hb.mono (by omega))⟩
theorem St.rules {w W:World} {A:Option Addr} {n:Nat} {z:Nat->Int} (h:St w A n z W) :
  (∃v,W.cell? ⟨w.heap.size+1,0,none⟩=some v)/\
  W.cell? ⟨w.heap.size,0,none⟩=some (.int .i64 (aU z 10 0))/\
  W.cell? ⟨w.heap.size,1,none⟩=some (.int .i64 (aU z 10 1))/\
  W.cell? ⟨w.heap.size,2,none⟩=some (.int .i64 (aU z 10 2))/\
  W.cell? ⟨w.heap.size,3,none⟩=some (.int .i64 (aU z 10 3))/\
  W.cell? ⟨w.heap.size,4,none⟩=some (.int .i64 (aU z 10 4))/\
  W.cell? ⟨w.heap.size,5,none⟩=some (.int .i64 (aU z 10 5))/\
  W.cell? ⟨w.heap.size,6,none⟩=some (.int .i64 (aU z 10 6))/\
  W.cell? ⟨w.heap.size,7,none⟩=some (.int .i64 (aU z 10 7))/\
  W.cell? ⟨w.heap.size,8,none⟩=some (.int .i64 (aU z 10 8))/\
  W.frozen? ⟨w.heap.size,0,none⟩=false/\
  W.frozen? ⟨w.heap.size,1,none⟩=false/\
  W.frozen? ⟨w.heap.size,2,none⟩=false/\
  W.frozen? ⟨w.heap.size,3,none⟩=false/\
  W.frozen? ⟨w.heap.size,4,none⟩=false/\
  W.frozen? ⟨w.heap.size,5,none⟩=false/\
  W.frozen? ⟨w.heap.size,6,none⟩=false/\
  W.frozen? ⟨w.heap.size,7,none⟩=false/\
  W.frozen? ⟨w.heap.size,8,none⟩=false/\
  W.frozen? ⟨w.heap.size+1,0,none⟩=false/\
  W.cell? ⟨w.heap.size+1+1,0,none⟩=some (.int .i64 0)/\
  W.frozen? ⟨w.heap.size+1+1,0,none⟩=false/\
  W.setCell ⟨w.heap.size,0,none⟩ (.int .i64 (aU z 10 0))=W/\
  W.setCell ⟨w.heap.size,1,none⟩ (.int .i64 (aU z 10 1))=W/\
  W.setCell ⟨w.heap.size,2,none⟩ (.int .i64 (aU z 10 2))=W/\
  W.setCell ⟨w.heap.size,3,none⟩ (.int .i64 (aU z 10 3))=W/\
  W.setCell ⟨w.heap.size,4,none⟩ (.int .i64 (aU z 10 4))=W/\
  W.setCell ⟨w.heap.size,5,none⟩ (.int .i64 (aU z 10 5))=W/\
  W.setCell ⟨w.heap.size,6,none⟩ (.int .i64 (aU z 10 6))=W/\
  W.setCell ⟨w.heap.size,7,none⟩ (.int .i64 (aU z 10 7))=W/\
  W.setCell ⟨w.heap.size,8,none⟩ (.int .i64 (aU z 10 8))=W/\
  W.setCell ⟨w.heap.size+1+1,0,none⟩ (.int .i64 0)=W:=
 ⟨h.pay.elim (fun v hv=>⟨v,hv.cell 0⟩),h.hdr.cell 0,h.hdr.cell 1,h.hdr.cell 2,h.hdr.cell 3,h.hdr.cell 4,h.hdr.cell 5,h.hdr.cell 6,h.hdr.cell 7,h.hdr.cell 8,h.hdr.frozen 0,h.hdr.frozen 1,h.hdr.frozen 2,h.hdr.frozen 3,h.hdr.frozen 4,h.hdr.frozen 5,h.hdr.frozen 6,h.hdr.frozen 7,h.hdr.frozen 8,h.pay.elim (fun _ hv=>hv.frozen 0),h.err.cell 0,h.err.frozen 0,h.setH 0 (by decide) rfl,h.setH 1 (by decide) rfl,h.setH 2 (by decide) rfl,h.setH 3 (by decide) rfl,h.setH 4 (by decide) rfl,h.setH 5 (by decide) rfl,h.setH 6 (by decide) rfl,h.setH 7 (by decide) rfl,h.setH 8 (by decide) rfl,h.setE⟩
def yz (w:World) (n:Nat) (z:Nat->Int) (P:Option Addr) (c:Nat) (W:World):Prop:=
 W.ownsRow (w.heap.size+1+1+1) 5 1 (.slice P (n-20:Nat) c) (n-20) ((List.range (n-20)).map (fun j=>.int .u8 (z (20+j))))
theorem yz.setP {w W:World} {n:Nat} {z:Nat->Int} {P:Option Addr} {c:Nat} (h:yz w n z P c W) (v:Value):yz w n z P c (W.setCell ⟨w.heap.size+1,0,none⟩ v):=
 h.kept (row:=some (w.heap.size+1)) ⟨rfl,rfl,rfl,by simp,fun k hk hne=>Below.heap_setCell W _ _ k (fun e=>hne (by rw[e]))⟩ (by
  rcases he:(Value.slice P (n-20:Nat) c).ownBlock with _ | k
  ·exact .inl rfl
  ·have:=(h.lt k he).1
   exact .inr (by simp;omega))
theorem rt {w W:World} {n:Nat} {z:Nat->Int} {lb lo lo2:Nat} (h:St w (some ⟨lb,lo,none⟩) n z W) (hl:20 < n->lo2=lo+20) (hs:w.heap.size<=W.heap.size):au W W.heap.size (some ⟨lb,lo2,none⟩) (n-20) (fun j=>.int .u8 (z (20+j))):=fun hn=>by
 obtain⟨b,off,e,hb,hc⟩:=h.row (by omega)
 cases e
 have:=hl (by omega);subst this
 exact⟨lb,lo+20,rfl,by omega,fun j hj=>by rw[show lo+20+j=lo+(20+j) by omega];exact hc (20+j) (by omega)⟩
def tM (w:World) (n:Nat) (z:Nat->Int) (W:World) (e:Ending) (W1:World):Prop:=
 ∃P c,e=.returned (.slice P (n-20:Nat) c)/\n-20<=c/\yz w n z P c W1/\Below W.heap.size W W1
theorem rO (w W:World) (lb lo lo2 n:Nat) (z:Nat->Int) (hm:n<=9000) (h:St w (some ⟨lb,lo,none⟩) n z W) (hl:20 < n->lo2=lo+20) :
  Calls Tryz.prog 39 #[.slice (some ⟨lb,lo2,none⟩) (n-20:Nat) (n-20:Nat)] W (tM w n z W):=by
 have hlt:=h.err.lt;refine(dc (some ⟨lb,lo2,none⟩) (n-20) (n-20) (fun j=>z (20+j)) W (by omega) (rt h hl (by omega))).mono ?_;rintro e w' ⟨P,c,rfl,hc,ho,hb⟩
 exact⟨P,c,rfl,hc,aT ho (by omega),hb⟩
theorem xG {w:World} {b off H:Nat} {h:Nat->Int} {x:Int} (hB:ae w H 176 (hdr h)) (hc:w.cell? ⟨b,off,none⟩=some (.int .u64 x)):b ≠ H:=by
 rintro rfl;have h1:=hB.cell off;rw[hc]at h1;by_cases ho:off < 9
 ·rw[uk h off ho]at h1
  cases h1
 ·rw[Array.getElem?_eq_none (by simp[hdr];omega)]at h1
  cases h1
theorem rn (z:Nat->Int) (k:Nat) (hk:k < 10):aH z k < 2 ^ 32:=bg (jG z _ _) (Nat.pow_le_pow_right (by decide) (nN k hk))
theorem oP (A:Option Addr) (n c:Nat) (z:Nat->Int) (hn:20<=n) (hm:n<=9000) (hnc:n<=c) (hz:∀j,j < n->0<=z j/\z j < 256) (hv:aH z 0=5) (w:World) (hr:au w w.heap.size A n (fun j=>.int .u8 (z j))) :
  Calls Tryz.prog 106 #[.slice A n c] w (wF w n z):=by
 have hmf:∀(fn:Fn) (first cap:Array Value) (w:World),(Instr.makeFunc fn first cap).run Tryz.prog w=.ok (.func fn first cap) w:=fun _ _ _ _=>rfl;have hn20:(20<=(n:Int)):=by omega
 have hnc2:(n:Int)<=(c:Int):=by omega
 have hn9:((n:Int)<=9000):=by omega
 have HR:=zh hr;have HZ:=zh hz;clear hr hz;go_enter_defers Tryz.func106,Tryz.ntmps106;go_upto_region 5 with (first | (go_at_call 127;refine(dH _ _).mono ?_;rintro e w1 ⟨rfl,rfl⟩) | (go_at_call 128;refine(iA A n c z (by omega) _ (by exact bh (bh (bh HR.out _) _) _)).mono ?_;rintro e w1 ⟨g,A2,c2,rfl,hg,hRS,hA2,hb1,hs1⟩;have HRS:=zh hRS;have HA2:=zh hA2;have HB1:=zh hb1;have HS1:=zh hs1;clear hRS hA2 hb1 hs1))
 go_cut [6]from 21 to 23 (fun l wx=>yG w A n z l wx)
 case first=>
  refine eH ?_;go_region_with (first | (go_at_call 130;refine(jR _ _ _).mono ?_;rintro e w3 ⟨L,lc,rfl,hL,hLf,hb3,c5⟩;have HL:=zh hL;have HLF:=zh hLf;have HB3:=zh hb3;clear hL hLf hb3) | (go_at_call 129;refine(tV g A2 L n c2 lc z (by omega) hn HZ.out (ns HLF.out (by rw[HS1.out];omega)) HA2.out _ ((df.new HRS.out _).on HB3.out) HL.out).mono ?_;rintro e w4 ⟨B,cB,rfl,hR4,hg4⟩;have HR4:=zh hR4;have HG4:=zh hg4;clear hR4 hg4))
  all_goals (dsimp only[onlyNormal];go_wp2;go_meet;exact sW rfl HB1.out (by simpa using hg) HS1.out HB3.out HR4.out HG4.out HR.out)
 case rest=>
  obtain⟨B,cB,rfl,hR,hrA,hbH,hbP,hbE,hbel,hsz⟩:=hcut;obtain⟨b,off,rfl,hbb,hcl⟩:=hR (by decide);have hcl:∀j,j < 10->wc.cell? ⟨b,off+j,none⟩=some (.int .u64 ((aH z j:Nat):Int)):=hcl;have cl0:wc.cell? ⟨b,off,none⟩=some (.int .u64 5):=by have:=hcl 0 (by decide);rw[hv]at this;exact this
  have HbH:=zh (xG hbH (hcl 0 (by decide)));have HCL:=zh hcl;have HV:=zh hv;have HBH:=zh hbH;have HBP:=zh hbP;have HBE:=zh hbE;have HBL:=zh hbel;have HRA:=zh hrA;have HSZ:=zh hsz;have HBB:=zh hbb;clear hR hrA hbH hbP hbE hbel hsz hcl hv hbb;go_wp2_with (first | (go_at_call 127;refine(dH 9 _).mono ?_;rintro e w5 ⟨rfl,rfl⟩) | (go_at_call 131;refine(m6 _).mono ?_;rintro e w2 ⟨rfl,hB2,hb2⟩;have HB2:=zh hB2;have Hb2:=zh hb2;clear hB2 hb2));obtain⟨f,hf⟩:=af (w5.heap.size+1)
  have hfs:w5.heap.size < f:=by omega
  have HK0:=zh (hf ▸ HB2.out:ae w2 f 3 #[.int .i64 5]);have h5:w.heap.size < w5.heap.size:=by have:=HSZ.out;omega
  have hb5:b < w5.heap.size:=HBB.out;have HF:=zh (fun k (hk:k < 10)=>rn z k hk);rw[<-hf];clear hf;go_loopw [30] (fun v wr=>∃k:Nat,k<=10/\v=.int .i64 k/\ae wr w.heap.size 176 (hdr (aU z k))/\(∃x,ae wr f 3 #[.int .i64 x])/\cY w.heap.size f w2 wr) (fun v _=>10-(intOf v).toNat)
  case atStart=>exact⟨0,by omega,rfl,(HBH.out.below Hb2.out h5).to (by simp[hdr,aU]),⟨_,HK0.out⟩,cY.refl _ _ _⟩
  case round=>
   obtain⟨k,hk,rfl,hH,⟨x,hX⟩,hK2⟩:=hrel;have HH:=zh hH;have HX:=zh hX;have HK2:=zh hK2;have hcr:∀j,j < 10->wr.cell? ⟨b,off+j,none⟩=some (.int .u64 ((aH z j:Nat):Int)):=fun j hj=>
    (hK2.cell (by have:=Hb2.out.size;show b < _;omega) HbH.out (by show b ≠ f;omega)).trans ((Hb2.out.cell (by show b < _;omega)).trans (HCL.out j hj))
   have HCR:=zh hcr;clear hH hX hK2 hcr;by_cases hlt:k < 10
   ·have hcase:k=0\/k=1\/k=2\/k=3\/k=4\/k=5\/k=6\/k=7\/k=8\/k=9:=by omega
    clear hk hlt;rcases hcase with rfl | rfl | rfl | rfl | rfl | rfl | rfl | rfl | rfl | rfl
    focus
     have hix:∀W:World,(Instr.index 215 (.agg (bj f)) (.int .i64 0)).run Tryz.prog W=.ok (.agg #[.string ⟨#[118,101,114,115,105,111,110]⟩,.int .i64 4,.func (.func 171) #[] #[.pointer (some ⟨f,0,none⟩)]]) W:=fun _=>by kernel_rfl
     obtain⟨F,hF⟩:=af (aH z 0)
     have ck:wr.cell? ⟨b,off,none⟩=some (.int .u64 ((aH z 0:Nat):Int)):=HCR.out 0 (by decide);have hF2:=HF.out 0 (by decide);rw[<-hF]at ck hF2;have hFw:IntKind.i64.wrap (F:Int)=(F:Int):=by rw[IntKind.wrap_i64];omega
     have HFF:=zh hF;clear hF hF2;go_wp2;obtain⟨WD,hWD⟩:=af ((wr.alloc (.cells #[.string ⟨#[118,101,114,115,105,111,110]⟩,.int .i64 4,.func (.func 171) #[] #[.pointer (some ⟨f,0,none⟩)]] 214)).drew)
     have q0:WD.cell? ⟨wr.heap.size,2,none⟩=some (.func (.func 171) #[] #[.pointer (some ⟨f,0,none⟩)]):=by rw[hWD];exact(ae.new wr _ _).cell 2
     have hwb:b < wr.heap.size:=by have:=HK2.out.size;have:=Hb2.out.size;omega
     have qc:WD.cell? ⟨b,off,none⟩=some (.int .u64 (F:Int)):=by rw[hWD];exact(World.cell?_alloc_lt wr _ ⟨b,off,none⟩ (by show b < _;omega)).trans ck
     have qd:∃y,WD.cell? ⟨f,0,none⟩=some (.int .i64 y):=by rw[hWD];exact⟨_,(HX.out.alloc _).cell 0⟩
     have qf:WD.frozen? ⟨f,0,none⟩=false:=by rw[hWD];exact(HX.out.alloc _).frozen 0
     obtain⟨y,qd⟩:=qd;have nH:∀u,ae (WD.setCell ⟨f,0,none⟩ u) w.heap.size 176 _:=fun u=>by rw[hWD];exact(HH.out.alloc _).far (by show w.heap.size ≠ f;omega) _
     refine wp_region_still_tail 9 (by kernel_rfl) (by kernel_rfl) ?_;simp only[List.take_succ_cons,List.take_zero,List.drop_succ_cons,List.drop_zero];change wpStill _ _ (wr.alloc (.cells #[.string ⟨#[118,101,114,115,105,111,110]⟩,.int .i64 4,.func (.func 171) #[] #[.pointer (some ⟨f,0,none⟩)]] 214)).drew (fun a'=>wpList _ _ _ _ a' (wr.alloc (.cells #[.string ⟨#[118,101,114,115,105,111,110]⟩,.int .i64 4,.func (.func 171) #[] #[.pointer (some ⟨f,0,none⟩)]] 214)).drew) _ _;rw[<-hWD];have HWD:=zh hWD;clear hWD ck
     repeat (first | still_step | (refine wpStill_step (fun K hK=>?_);go_simp;refine⟨_,(yI f w.heap.size WD),hK _ ?_⟩;clear hK K))
     refine wpStill_nil ?_;go_wp2;go_roundw
     case rel=>exact⟨1,by decide,rfl,(nH _).to (by simp[hdr,aU]),by rw[HWD.out];exact⟨_,(HX.out.alloc _).set_ 0 _⟩,by rw[HWD.out];exact((HK2.out.alloc _).drew.set_ ⟨f,0,none⟩ (.inr rfl) _)⟩
    rotate_left
    focus
     have hix:∀W:World,(Instr.index 215 (.agg (bj f)) (.int .i64 1)).run Tryz.prog W=.ok (.agg #[.string ⟨#[99,108,97,115,115]⟩,.int .i64 4,.func (.func 172) #[] #[]]) W:=fun _=>by kernel_rfl
     obtain⟨F,hF⟩:=af (aH z 1)
     have ck:wr.cell? ⟨b,off+1,none⟩=some (.int .u64 ((aH z 1:Nat):Int)):=HCR.out 1 (by decide);have hF2:=HF.out 1 (by decide);rw[<-hF]at ck hF2;have hFw:IntKind.i64.wrap (F:Int)=(F:Int):=by rw[IntKind.wrap_i64];omega
     have HFF:=zh hF;clear hF hF2;go_wp2;obtain⟨WD,hWD⟩:=af ((wr.alloc (.cells #[.string ⟨#[99,108,97,115,115]⟩,.int .i64 4,.func (.func 172) #[] #[]] 214)).drew)
     have q0:WD.cell? ⟨wr.heap.size,2,none⟩=some (.func (.func 172) #[] #[]):=by rw[hWD];exact(ae.new wr _ _).cell 2
     have hwb:b < wr.heap.size:=by have:=HK2.out.size;have:=Hb2.out.size;omega
     have qc:WD.cell? ⟨b,off+1,none⟩=some (.int .u64 (F:Int)):=by rw[hWD];exact(World.cell?_alloc_lt wr _ ⟨b,off+1,none⟩ (by show b < _;omega)).trans ck
     have qd:∃y,WD.cell? ⟨w.heap.size,0,none⟩=some (.int .i64 y):=by rw[hWD];exact⟨_,(HH.out.alloc _).cell 0⟩
     have qf:WD.frozen? ⟨w.heap.size,0,none⟩=false:=by rw[hWD];exact(HH.out.alloc _).frozen 0
     obtain⟨y,qd⟩:=qd;have nH:∀u,ae (WD.setCell ⟨w.heap.size,0,none⟩ u) w.heap.size 176 _:=fun u=>by rw[hWD];exact((HH.out.alloc _).set_ 0 u)
     refine wp_region_still_tail 9 (by kernel_rfl) (by kernel_rfl) ?_;simp only[List.take_succ_cons,List.take_zero,List.drop_succ_cons,List.drop_zero];change wpStill _ _ (wr.alloc (.cells #[.string ⟨#[99,108,97,115,115]⟩,.int .i64 4,.func (.func 172) #[] #[]] 214)).drew (fun a'=>wpList _ _ _ _ a' (wr.alloc (.cells #[.string ⟨#[99,108,97,115,115]⟩,.int .i64 4,.func (.func 172) #[] #[]] 214)).drew) _ _;rw[<-hWD];have HWD:=zh hWD;clear hWD ck
     repeat (first | still_step | (refine wpStill_step (fun K hK=>?_);go_simp;refine⟨_,(yX w.heap.size WD),hK _ ?_⟩;clear hK K))
     refine wpStill_nil ?_;go_wp2;go_roundw
     case rel=>exact⟨2,by decide,rfl,(nH _).to (by simp[hdr,aU,HFF.out]),by rw[HWD.out];exact⟨_,(HX.out.alloc _).far (by show f ≠ w.heap.size;omega) _⟩,by rw[HWD.out];exact((HK2.out.alloc _).drew.set_ ⟨w.heap.size,0,none⟩ (.inl rfl) _)⟩
    rotate_left
    focus
     have hix:∀W:World,(Instr.index 215 (.agg (bj f)) (.int .i64 2)).run Tryz.prog W=.ok (.agg #[.string ⟨#[102,108,111,119]⟩,.int .i64 16,.func (.func 173) #[] #[]]) W:=fun _=>by kernel_rfl
     obtain⟨F,hF⟩:=af (aH z 2)
     have ck:wr.cell? ⟨b,off+2,none⟩=some (.int .u64 ((aH z 2:Nat):Int)):=HCR.out 2 (by decide);have hF2:=HF.out 2 (by decide);rw[<-hF]at ck hF2;have hFw:IntKind.i64.wrap (F:Int)=(F:Int):=by rw[IntKind.wrap_i64];omega
     have HFF:=zh hF;clear hF hF2;go_wp2;obtain⟨WD,hWD⟩:=af ((wr.alloc (.cells #[.string ⟨#[102,108,111,119]⟩,.int .i64 16,.func (.func 173) #[] #[]] 214)).drew)
     have q0:WD.cell? ⟨wr.heap.size,2,none⟩=some (.func (.func 173) #[] #[]):=by rw[hWD];exact(ae.new wr _ _).cell 2
     have hwb:b < wr.heap.size:=by have:=HK2.out.size;have:=Hb2.out.size;omega
     have qc:WD.cell? ⟨b,off+2,none⟩=some (.int .u64 (F:Int)):=by rw[hWD];exact(World.cell?_alloc_lt wr _ ⟨b,off+2,none⟩ (by show b < _;omega)).trans ck
     have qd:∃y,WD.cell? ⟨w.heap.size,1,none⟩=some (.int .i64 y):=by rw[hWD];exact⟨_,(HH.out.alloc _).cell 1⟩
     have qf:WD.frozen? ⟨w.heap.size,1,none⟩=false:=by rw[hWD];exact(HH.out.alloc _).frozen 1
     obtain⟨y,qd⟩:=qd;have nH:∀u,ae (WD.setCell ⟨w.heap.size,1,none⟩ u) w.heap.size 176 _:=fun u=>by rw[hWD];exact((HH.out.alloc _).set_ 1 u)
     refine wp_region_still_tail 9 (by kernel_rfl) (by kernel_rfl) ?_;simp only[List.take_succ_cons,List.take_zero,List.drop_succ_cons,List.drop_zero];change wpStill _ _ (wr.alloc (.cells #[.string ⟨#[102,108,111,119]⟩,.int .i64 16,.func (.func 173) #[] #[]] 214)).drew (fun a'=>wpList _ _ _ _ a' (wr.alloc (.cells #[.string ⟨#[102,108,111,119]⟩,.int .i64 16,.func (.func 173) #[] #[]] 214)).drew) _ _;rw[<-hWD];have HWD:=zh hWD;clear hWD ck
     repeat (first | still_step | (refine wpStill_step (fun K hK=>?_);go_simp;refine⟨_,(yU w.heap.size WD),hK _ ?_⟩;clear hK K))
     refine wpStill_nil ?_;go_wp2;go_roundw
     case rel=>exact⟨3,by decide,rfl,(nH _).to (by simp[hdr,aU,HFF.out]),by rw[HWD.out];exact⟨_,(HX.out.alloc _).far (by show f ≠ w.heap.size;omega) _⟩,by rw[HWD.out];exact((HK2.out.alloc _).drew.set_ ⟨w.heap.size,1,none⟩ (.inl rfl) _)⟩
    rotate_left
    focus
     have hix:∀W:World,(Instr.index 215 (.agg (bj f)) (.int .i64 3)).run Tryz.prog W=.ok (.agg #[.string ⟨#[115,111,117,114,99,101]⟩,.int .i64 32,.func (.func 174) #[] #[]]) W:=fun _=>by kernel_rfl
     obtain⟨F,hF⟩:=af (aH z 3)
     have ck:wr.cell? ⟨b,off+3,none⟩=some (.int .u64 ((aH z 3:Nat):Int)):=HCR.out 3 (by decide);have hF2:=HF.out 3 (by decide);rw[<-hF]at ck hF2;have hFw:IntKind.i64.wrap (F:Int)=(F:Int):=by rw[IntKind.wrap_i64];omega
     have HFF:=zh hF;clear hF hF2;go_wp2;obtain⟨WD,hWD⟩:=af ((wr.alloc (.cells #[.string ⟨#[115,111,117,114,99,101]⟩,.int .i64 32,.func (.func 174) #[] #[]] 214)).drew)
     have q0:WD.cell? ⟨wr.heap.size,2,none⟩=some (.func (.func 174) #[] #[]):=by rw[hWD];exact(ae.new wr _ _).cell 2
     have hwb:b < wr.heap.size:=by have:=HK2.out.size;have:=Hb2.out.size;omega
     have qc:WD.cell? ⟨b,off+3,none⟩=some (.int .u64 (F:Int)):=by rw[hWD];exact(World.cell?_alloc_lt wr _ ⟨b,off+3,none⟩ (by show b < _;omega)).trans ck
     have qd:∃y,WD.cell? ⟨w.heap.size,2,none⟩=some (.int .i64 y):=by rw[hWD];exact⟨_,(HH.out.alloc _).cell 2⟩
     have qf:WD.frozen? ⟨w.heap.size,2,none⟩=false:=by rw[hWD];exact(HH.out.alloc _).frozen 2
     obtain⟨y,qd⟩:=qd;have nH:∀u,ae (WD.setCell ⟨w.heap.size,2,none⟩ u) w.heap.size 176 _:=fun u=>by rw[hWD];exact((HH.out.alloc _).set_ 2 u)
     refine wp_region_still_tail 9 (by kernel_rfl) (by kernel_rfl) ?_;simp only[List.take_succ_cons,List.take_zero,List.drop_succ_cons,List.drop_zero];change wpStill _ _ (wr.alloc (.cells #[.string ⟨#[115,111,117,114,99,101]⟩,.int .i64 32,.func (.func 174) #[] #[]] 214)).drew (fun a'=>wpList _ _ _ _ a' (wr.alloc (.cells #[.string ⟨#[115,111,117,114,99,101]⟩,.int .i64 32,.func (.func 174) #[] #[]] 214)).drew) _ _;rw[<-hWD];have HWD:=zh hWD;clear hWD ck
     repeat (first | still_step | (refine wpStill_step (fun K hK=>?_);go_simp;refine⟨_,(yZ w.heap.size WD),hK _ ?_⟩;clear hK K))
     refine wpStill_nil ?_;go_wp2;go_roundw
     case rel=>exact⟨4,by decide,rfl,(nH _).to (by simp[hdr,aU,HFF.out]),by rw[HWD.out];exact⟨_,(HX.out.alloc _).far (by show f ≠ w.heap.size;omega) _⟩,by rw[HWD.out];exact((HK2.out.alloc _).drew.set_ ⟨w.heap.size,2,none⟩ (.inl rfl) _)⟩
    rotate_left
    focus
     have hix:∀W:World,(Instr.index 215 (.agg (bj f)) (.int .i64 4)).run Tryz.prog W=.ok (.agg #[.string ⟨#[100,101,115,116]⟩,.int .i64 32,.func (.func 175) #[] #[]]) W:=fun _=>by kernel_rfl
     obtain⟨F,hF⟩:=af (aH z 4)
     have ck:wr.cell? ⟨b,off+4,none⟩=some (.int .u64 ((aH z 4:Nat):Int)):=HCR.out 4 (by decide);have hF2:=HF.out 4 (by decide);rw[<-hF]at ck hF2;have hFw:IntKind.i64.wrap (F:Int)=(F:Int):=by rw[IntKind.wrap_i64];omega
     have HFF:=zh hF;clear hF hF2;go_wp2;obtain⟨WD,hWD⟩:=af ((wr.alloc (.cells #[.string ⟨#[100,101,115,116]⟩,.int .i64 32,.func (.func 175) #[] #[]] 214)).drew)
     have q0:WD.cell? ⟨wr.heap.size,2,none⟩=some (.func (.func 175) #[] #[]):=by rw[hWD];exact(ae.new wr _ _).cell 2
     have hwb:b < wr.heap.size:=by have:=HK2.out.size;have:=Hb2.out.size;omega
     have qc:WD.cell? ⟨b,off+4,none⟩=some (.int .u64 (F:Int)):=by rw[hWD];exact(World.cell?_alloc_lt wr _ ⟨b,off+4,none⟩ (by show b < _;omega)).trans ck
     have qd:∃y,WD.cell? ⟨w.heap.size,3,none⟩=some (.int .i64 y):=by rw[hWD];exact⟨_,(HH.out.alloc _).cell 3⟩
     have qf:WD.frozen? ⟨w.heap.size,3,none⟩=false:=by rw[hWD];exact(HH.out.alloc _).frozen 3
     obtain⟨y,qd⟩:=qd;have nH:∀u,ae (WD.setCell ⟨w.heap.size,3,none⟩ u) w.heap.size 176 _:=fun u=>by rw[hWD];exact((HH.out.alloc _).set_ 3 u)
     refine wp_region_still_tail 9 (by kernel_rfl) (by kernel_rfl) ?_;simp only[List.take_succ_cons,List.take_zero,List.drop_succ_cons,List.drop_zero];change wpStill _ _ (wr.alloc (.cells #[.string ⟨#[100,101,115,116]⟩,.int .i64 32,.func (.func 175) #[] #[]] 214)).drew (fun a'=>wpList _ _ _ _ a' (wr.alloc (.cells #[.string ⟨#[100,101,115,116]⟩,.int .i64 32,.func (.func 175) #[] #[]] 214)).drew) _ _;rw[<-hWD];have HWD:=zh hWD;clear hWD ck
     repeat (first | still_step | (refine wpStill_step (fun K hK=>?_);go_simp;refine⟨_,(yM w.heap.size WD),hK _ ?_⟩;clear hK K))
     refine wpStill_nil ?_;go_wp2;go_roundw
     case rel=>exact⟨5,by decide,rfl,(nH _).to (by simp[hdr,aU,HFF.out]),by rw[HWD.out];exact⟨_,(HX.out.alloc _).far (by show f ≠ w.heap.size;omega) _⟩,by rw[HWD.out];exact((HK2.out.alloc _).drew.set_ ⟨w.heap.size,3,none⟩ (.inl rfl) _)⟩
    rotate_left
    focus
     have hix:∀W:World,(Instr.index 215 (.agg (bj f)) (.int .i64 5)).run Tryz.prog W=.ok (.agg #[.string ⟨#[112,114,111,116,111]⟩,.int .i64 8,.func (.func 176) #[] #[]]) W:=fun _=>by kernel_rfl
     obtain⟨F,hF⟩:=af (aH z 5)
     have ck:wr.cell? ⟨b,off+5,none⟩=some (.int .u64 ((aH z 5:Nat):Int)):=HCR.out 5 (by decide);have hF2:=HF.out 5 (by decide);rw[<-hF]at ck hF2;have hFw:IntKind.i64.wrap (F:Int)=(F:Int):=by rw[IntKind.wrap_i64];omega
     have HFF:=zh hF;clear hF hF2;go_wp2;obtain⟨WD,hWD⟩:=af ((wr.alloc (.cells #[.string ⟨#[112,114,111,116,111]⟩,.int .i64 8,.func (.func 176) #[] #[]] 214)).drew)
     have q0:WD.cell? ⟨wr.heap.size,2,none⟩=some (.func (.func 176) #[] #[]):=by rw[hWD];exact(ae.new wr _ _).cell 2
     have hwb:b < wr.heap.size:=by have:=HK2.out.size;have:=Hb2.out.size;omega
     have qc:WD.cell? ⟨b,off+5,none⟩=some (.int .u64 (F:Int)):=by rw[hWD];exact(World.cell?_alloc_lt wr _ ⟨b,off+5,none⟩ (by show b < _;omega)).trans ck
     have qd:∃y,WD.cell? ⟨w.heap.size,4,none⟩=some (.int .i64 y):=by rw[hWD];exact⟨_,(HH.out.alloc _).cell 4⟩
     have qf:WD.frozen? ⟨w.heap.size,4,none⟩=false:=by rw[hWD];exact(HH.out.alloc _).frozen 4
     obtain⟨y,qd⟩:=qd;have nH:∀u,ae (WD.setCell ⟨w.heap.size,4,none⟩ u) w.heap.size 176 _:=fun u=>by rw[hWD];exact((HH.out.alloc _).set_ 4 u)
     refine wp_region_still_tail 9 (by kernel_rfl) (by kernel_rfl) ?_;simp only[List.take_succ_cons,List.take_zero,List.drop_succ_cons,List.drop_zero];change wpStill _ _ (wr.alloc (.cells #[.string ⟨#[112,114,111,116,111]⟩,.int .i64 8,.func (.func 176) #[] #[]] 214)).drew (fun a'=>wpList _ _ _ _ a' (wr.alloc (.cells #[.string ⟨#[112,114,111,116,111]⟩,.int .i64 8,.func (.func 176) #[] #[]] 214)).drew) _ _;rw[<-hWD];have HWD:=zh hWD;clear hWD ck
     repeat (first | still_step | (refine wpStill_step (fun K hK=>?_);go_simp;refine⟨_,(yN w.heap.size WD),hK _ ?_⟩;clear hK K))
     refine wpStill_nil ?_;go_wp2;go_roundw
     case rel=>exact⟨6,by decide,rfl,(nH _).to (by simp[hdr,aU,HFF.out]),by rw[HWD.out];exact⟨_,(HX.out.alloc _).far (by show f ≠ w.heap.size;omega) _⟩,by rw[HWD.out];exact((HK2.out.alloc _).drew.set_ ⟨w.heap.size,4,none⟩ (.inl rfl) _)⟩
    rotate_left
    focus
     have hix:∀W:World,(Instr.index 215 (.agg (bj f)) (.int .i64 6)).run Tryz.prog W=.ok (.agg #[.string ⟨#[104,111,112,115]⟩,.int .i64 8,.func (.func 177) #[] #[]]) W:=fun _=>by kernel_rfl
     obtain⟨F,hF⟩:=af (aH z 6)
     have ck:wr.cell? ⟨b,off+6,none⟩=some (.int .u64 ((aH z 6:Nat):Int)):=HCR.out 6 (by decide);have hF2:=HF.out 6 (by decide);rw[<-hF]at ck hF2;have hFw:IntKind.i64.wrap (F:Int)=(F:Int):=by rw[IntKind.wrap_i64];omega
     have HFF:=zh hF;clear hF hF2;go_wp2;obtain⟨WD,hWD⟩:=af ((wr.alloc (.cells #[.string ⟨#[104,111,112,115]⟩,.int .i64 8,.func (.func 177) #[] #[]] 214)).drew)
     have q0:WD.cell? ⟨wr.heap.size,2,none⟩=some (.func (.func 177) #[] #[]):=by rw[hWD];exact(ae.new wr _ _).cell 2
     have hwb:b < wr.heap.size:=by have:=HK2.out.size;have:=Hb2.out.size;omega
     have qc:WD.cell? ⟨b,off+6,none⟩=some (.int .u64 (F:Int)):=by rw[hWD];exact(World.cell?_alloc_lt wr _ ⟨b,off+6,none⟩ (by show b < _;omega)).trans ck
     have qd:∃y,WD.cell? ⟨w.heap.size,5,none⟩=some (.int .i64 y):=by rw[hWD];exact⟨_,(HH.out.alloc _).cell 5⟩
     have qf:WD.frozen? ⟨w.heap.size,5,none⟩=false:=by rw[hWD];exact(HH.out.alloc _).frozen 5
     obtain⟨y,qd⟩:=qd;have nH:∀u,ae (WD.setCell ⟨w.heap.size,5,none⟩ u) w.heap.size 176 _:=fun u=>by rw[hWD];exact((HH.out.alloc _).set_ 5 u)
     refine wp_region_still_tail 9 (by kernel_rfl) (by kernel_rfl) ?_;simp only[List.take_succ_cons,List.take_zero,List.drop_succ_cons,List.drop_zero];change wpStill _ _ (wr.alloc (.cells #[.string ⟨#[104,111,112,115]⟩,.int .i64 8,.func (.func 177) #[] #[]] 214)).drew (fun a'=>wpList _ _ _ _ a' (wr.alloc (.cells #[.string ⟨#[104,111,112,115]⟩,.int .i64 8,.func (.func 177) #[] #[]] 214)).drew) _ _;rw[<-hWD];have HWD:=zh hWD;clear hWD ck
     repeat (first | still_step | (refine wpStill_step (fun K hK=>?_);go_simp;refine⟨_,(yQ w.heap.size WD),hK _ ?_⟩;clear hK K))
     refine wpStill_nil ?_;go_wp2;go_roundw
     case rel=>exact⟨7,by decide,rfl,(nH _).to (by simp[hdr,aU,HFF.out]),by rw[HWD.out];exact⟨_,(HX.out.alloc _).far (by show f ≠ w.heap.size;omega) _⟩,by rw[HWD.out];exact((HK2.out.alloc _).drew.set_ ⟨w.heap.size,5,none⟩ (.inl rfl) _)⟩
    rotate_left
    focus
     have hix:∀W:World,(Instr.index 215 (.agg (bj f)) (.int .i64 7)).run Tryz.prog W=.ok (.agg #[.string ⟨#[105,100,101,110,116]⟩,.int .i64 16,.func (.func 178) #[] #[]]) W:=fun _=>by kernel_rfl
     obtain⟨F,hF⟩:=af (aH z 7)
     have ck:wr.cell? ⟨b,off+7,none⟩=some (.int .u64 ((aH z 7:Nat):Int)):=HCR.out 7 (by decide);have hF2:=HF.out 7 (by decide);rw[<-hF]at ck hF2;have hFw:IntKind.i64.wrap (F:Int)=(F:Int):=by rw[IntKind.wrap_i64];omega
     have HFF:=zh hF;clear hF hF2;go_wp2;obtain⟨WD,hWD⟩:=af ((wr.alloc (.cells #[.string ⟨#[105,100,101,110,116]⟩,.int .i64 16,.func (.func 178) #[] #[]] 214)).drew)
     have q0:WD.cell? ⟨wr.heap.size,2,none⟩=some (.func (.func 178) #[] #[]):=by rw[hWD];exact(ae.new wr _ _).cell 2
     have hwb:b < wr.heap.size:=by have:=HK2.out.size;have:=Hb2.out.size;omega
     have qc:WD.cell? ⟨b,off+7,none⟩=some (.int .u64 (F:Int)):=by rw[hWD];exact(World.cell?_alloc_lt wr _ ⟨b,off+7,none⟩ (by show b < _;omega)).trans ck
     have qd:∃y,WD.cell? ⟨w.heap.size,6,none⟩=some (.int .i64 y):=by rw[hWD];exact⟨_,(HH.out.alloc _).cell 6⟩
     have qf:WD.frozen? ⟨w.heap.size,6,none⟩=false:=by rw[hWD];exact(HH.out.alloc _).frozen 6
     obtain⟨y,qd⟩:=qd;have nH:∀u,ae (WD.setCell ⟨w.heap.size,6,none⟩ u) w.heap.size 176 _:=fun u=>by rw[hWD];exact((HH.out.alloc _).set_ 6 u)
     refine wp_region_still_tail 9 (by kernel_rfl) (by kernel_rfl) ?_;simp only[List.take_succ_cons,List.take_zero,List.drop_succ_cons,List.drop_zero];change wpStill _ _ (wr.alloc (.cells #[.string ⟨#[105,100,101,110,116]⟩,.int .i64 16,.func (.func 178) #[] #[]] 214)).drew (fun a'=>wpList _ _ _ _ a' (wr.alloc (.cells #[.string ⟨#[105,100,101,110,116]⟩,.int .i64 16,.func (.func 178) #[] #[]] 214)).drew) _ _;rw[<-hWD];have HWD:=zh hWD;clear hWD ck
     repeat (first | still_step | (refine wpStill_step (fun K hK=>?_);go_simp;refine⟨_,(yV w.heap.size WD),hK _ ?_⟩;clear hK K))
     refine wpStill_nil ?_;go_wp2;go_roundw
     case rel=>exact⟨8,by decide,rfl,(nH _).to (by simp[hdr,aU,HFF.out]),by rw[HWD.out];exact⟨_,(HX.out.alloc _).far (by show f ≠ w.heap.size;omega) _⟩,by rw[HWD.out];exact((HK2.out.alloc _).drew.set_ ⟨w.heap.size,6,none⟩ (.inl rfl) _)⟩
    rotate_left
    focus
     have hix:∀W:World,(Instr.index 215 (.agg (bj f)) (.int .i64 8)).run Tryz.prog W=.ok (.agg #[.string ⟨#[116,105,109,101]⟩,.int .i64 24,.func (.func 179) #[] #[]]) W:=fun _=>by kernel_rfl
     obtain⟨F,hF⟩:=af (aH z 8)
     have ck:wr.cell? ⟨b,off+8,none⟩=some (.int .u64 ((aH z 8:Nat):Int)):=HCR.out 8 (by decide);have hF2:=HF.out 8 (by decide);rw[<-hF]at ck hF2;have hFw:IntKind.i64.wrap (F:Int)=(F:Int):=by rw[IntKind.wrap_i64];omega
     have HFF:=zh hF;clear hF hF2;go_wp2;obtain⟨WD,hWD⟩:=af ((wr.alloc (.cells #[.string ⟨#[116,105,109,101]⟩,.int .i64 24,.func (.func 179) #[] #[]] 214)).drew)
     have q0:WD.cell? ⟨wr.heap.size,2,none⟩=some (.func (.func 179) #[] #[]):=by rw[hWD];exact(ae.new wr _ _).cell 2
     have hwb:b < wr.heap.size:=by have:=HK2.out.size;have:=Hb2.out.size;omega
     have qc:WD.cell? ⟨b,off+8,none⟩=some (.int .u64 (F:Int)):=by rw[hWD];exact(World.cell?_alloc_lt wr _ ⟨b,off+8,none⟩ (by show b < _;omega)).trans ck
     have qd:∃y,WD.cell? ⟨w.heap.size,7,none⟩=some (.int .i64 y):=by rw[hWD];exact⟨_,(HH.out.alloc _).cell 7⟩
     have qf:WD.frozen? ⟨w.heap.size,7,none⟩=false:=by rw[hWD];exact(HH.out.alloc _).frozen 7
     obtain⟨y,qd⟩:=qd;have nH:∀u,ae (WD.setCell ⟨w.heap.size,7,none⟩ u) w.heap.size 176 _:=fun u=>by rw[hWD];exact((HH.out.alloc _).set_ 7 u)
     refine wp_region_still_tail 9 (by kernel_rfl) (by kernel_rfl) ?_;simp only[List.take_succ_cons,List.take_zero,List.drop_succ_cons,List.drop_zero];change wpStill _ _ (wr.alloc (.cells #[.string ⟨#[116,105,109,101]⟩,.int .i64 24,.func (.func 179) #[] #[]] 214)).drew (fun a'=>wpList _ _ _ _ a' (wr.alloc (.cells #[.string ⟨#[116,105,109,101]⟩,.int .i64 24,.func (.func 179) #[] #[]] 214)).drew) _ _;rw[<-hWD];have HWD:=zh hWD;clear hWD ck
     repeat (first | still_step | (refine wpStill_step (fun K hK=>?_);go_simp;refine⟨_,(yO w.heap.size WD),hK _ ?_⟩;clear hK K))
     refine wpStill_nil ?_;go_wp2;go_roundw
     case rel=>exact⟨9,by decide,rfl,(nH _).to (by simp[hdr,aU,HFF.out]),by rw[HWD.out];exact⟨_,(HX.out.alloc _).far (by show f ≠ w.heap.size;omega) _⟩,by rw[HWD.out];exact((HK2.out.alloc _).drew.set_ ⟨w.heap.size,7,none⟩ (.inl rfl) _)⟩
    rotate_left
    focus
     have hix:∀W:World,(Instr.index 215 (.agg (bj f)) (.int .i64 9)).run Tryz.prog W=.ok (.agg #[.string ⟨#[108,101,110,103,116,104]⟩,.int .i64 16,.func (.func 180) #[] #[]]) W:=fun _=>by kernel_rfl
     obtain⟨F,hF⟩:=af (aH z 9)
     have ck:wr.cell? ⟨b,off+9,none⟩=some (.int .u64 ((aH z 9:Nat):Int)):=HCR.out 9 (by decide);have hF2:=HF.out 9 (by decide);rw[<-hF]at ck hF2;have hFw:IntKind.i64.wrap (F:Int)=(F:Int):=by rw[IntKind.wrap_i64];omega
     have HFF:=zh hF;clear hF hF2;go_wp2;obtain⟨WD,hWD⟩:=af ((wr.alloc (.cells #[.string ⟨#[108,101,110,103,116,104]⟩,.int .i64 16,.func (.func 180) #[] #[]] 214)).drew)
     have q0:WD.cell? ⟨wr.heap.size,2,none⟩=some (.func (.func 180) #[] #[]):=by rw[hWD];exact(ae.new wr _ _).cell 2
     have hwb:b < wr.heap.size:=by have:=HK2.out.size;have:=Hb2.out.size;omega
     have qc:WD.cell? ⟨b,off+9,none⟩=some (.int .u64 (F:Int)):=by rw[hWD];exact(World.cell?_alloc_lt wr _ ⟨b,off+9,none⟩ (by show b < _;omega)).trans ck
     have qd:∃y,WD.cell? ⟨w.heap.size,8,none⟩=some (.int .i64 y):=by rw[hWD];exact⟨_,(HH.out.alloc _).cell 8⟩
     have qf:WD.frozen? ⟨w.heap.size,8,none⟩=false:=by rw[hWD];exact(HH.out.alloc _).frozen 8
     obtain⟨y,qd⟩:=qd;have nH:∀u,ae (WD.setCell ⟨w.heap.size,8,none⟩ u) w.heap.size 176 _:=fun u=>by rw[hWD];exact((HH.out.alloc _).set_ 8 u)
     refine wp_region_still_tail 9 (by kernel_rfl) (by kernel_rfl) ?_;simp only[List.take_succ_cons,List.take_zero,List.drop_succ_cons,List.drop_zero];change wpStill _ _ (wr.alloc (.cells #[.string ⟨#[108,101,110,103,116,104]⟩,.int .i64 16,.func (.func 180) #[] #[]] 214)).drew (fun a'=>wpList _ _ _ _ a' (wr.alloc (.cells #[.string ⟨#[108,101,110,103,116,104]⟩,.int .i64 16,.func (.func 180) #[] #[]] 214)).drew) _ _;rw[<-hWD];have HWD:=zh hWD;clear hWD ck
     repeat (first | still_step | (refine wpStill_step (fun K hK=>?_);go_simp;refine⟨_,(yJ w.heap.size WD),hK _ ?_⟩;clear hK K))
     refine wpStill_nil ?_;go_wp2;go_roundw
     case rel=>exact⟨10,by decide,rfl,(nH _).to (by simp[hdr,aU,HFF.out]),by rw[HWD.out];exact⟨_,(HX.out.alloc _).far (by show f ≠ w.heap.size;omega) _⟩,by rw[HWD.out];exact((HK2.out.alloc _).drew.set_ ⟨w.heap.size,8,none⟩ (.inl rfl) _)⟩
    all_goals
     case measure=>simp[intOf]
   ·obtain rfl:k=10:=by omega
    have ch:wr.cell? ⟨w.heap.size,8,none⟩=some (.int .i64 ((aH z 9:Nat):Int)):=HH.out.cell 8;have HBW:=zh (HK2.out.below ((HBL.out.trans (Hb2.out.mono (by omega)))) ao (by omega) (by have:=Hb2.out.size;omega));have hs2:=Hb2.out.size;have hsz:=HSZ.out;have BP:=zh (HK2.out.blk (HBP.out.below Hb2.out (by omega)) (by omega) (by omega));have BE:=zh (HK2.out.blk (HBE.out.below Hb2.out (by omega)) (by omega) (by omega));obtain⟨F,hF⟩:=af (aH z 9)
    rw[<-hF]at ch;by_cases h9:F=n
    ·have h91:((F:Int)=(n:Int)):=by omega
     have h92:((F:Int) == (n:Int))=true:=by simp;omega
     have HFF:=zh hF;clear hF;have HRW:=zh (HRA.out.keep (w':=wr) fun p hp=>(HK2.out.cell (by omega) (by omega) (by omega)).trans (Hb2.out.cell (by omega)));go_upto_region 13 with (go_at_call 127;refine(dH 9 _).mono ?_;rintro e w7 ⟨rfl,rfl⟩)
     clear h91 h92 ch;have N9:=zh h9;clear h9;obtain⟨lb,lo,rfl,_,hx⟩:=HRW.out (by omega);clear hx;obtain⟨lo2,hsl,hlo2⟩:=vS lb lo n c hn hnc;have HLO:=zh hlo2;have ST:Hid (St w (some ⟨lb,lo,none⟩) n z w7):=zh ⟨HH.out,⟨_,BP.out⟩,BE.out,HRW.out,HBW.out⟩;clear hlo2;have STD:Hid (St w (some ⟨lb,lo,none⟩) n z w7.drew):=zh ⟨HH.out,⟨_,BP.out⟩,BE.out,HRW.out,⟨HBW.out.os,HBW.out.tape,HBW.out.output,HBW.out.size,HBW.out.block⟩⟩;obtain⟨-,-,-,-,-,-,-,-,-,-,-,-,-,-,-,-,-,-,-,-,-,-,d0,d1,d2,d3,d4,d5,d6,d7,d8,dd⟩:=STD.out.rules;obtain⟨⟨v0,yp⟩,y0,y1,y2,y3,y4,y5,y6,y7,y8,f0,f1,f2,f3,f4,f5,f6,f7,f8,fp,ye,fe,-⟩:=ST.out.rules;refine eH ?_;go_region_with (go_at_call 39;refine(rO w _ lb lo lo2 n z (by omega) STD.out HLO.out).mono ?_;rintro e w8 ⟨P,cP,rfl,hcP,hPay,hb8⟩;have HCP:=zh hcP;have HPAY:=zh (hPay.setP (.slice P (n-20:Nat) cP));have ST8:=zh (STD.out.clone hb8);have ST9:=zh (ST8.out.setP (.slice P (n-20:Nat) cP));have B9:=zh (ST8.out.paid (.slice P (n-20:Nat) cP));clear hcP hPay hb8;obtain⟨⟨v8,yp'⟩,y0',y1',y2',y3',y4',y5',y6',y7',y8',f0',f1',f2',f3',f4',f5',f6',f7',f8',fp',ye',fe',e0',e1',e2',e3',e4',e5',e6',e7',e8',ee'⟩:=ST8.out.rules;obtain⟨-,-,-,-,-,-,-,-,-,-,-,-,-,-,-,-,-,-,-,-,-,-,e0'',e1'',e2'',e3'',e4'',e5'',e6'',e7'',e8'',ee''⟩:=ST9.out.rules)
     all_goals (dsimp only[onlyNormal];go_wp2;exact na _ _ (aU z 10) P (n-20) cP w.heap.size _ ST9.out.hdr B9.out ST9.out.err ⟨fun _=>⟨P,cP,rfl,HCP.out,aT HPAY.out (by omega),ST9.out.below⟩,fun hne=>absurd (HFF.out.symm.trans N9.out) hne⟩ rfl rfl rfl)
    ·have h91:¬((F:Int)=(n:Int)):=by omega
     have h92:((F:Int) == (n:Int))=false:=by simp;omega
     have h93:decide ((F:Int)=(n:Int))=false:=by simp;omega
     have HFF:=zh hF;clear hF;go_wp2_with (go_at_call 127;refine(fy 9 _).mono ?_;rintro e w7 ⟨rfl,rfl⟩)
     exact gE _ w _ (aU z 10) (.slice none 0 0) 0 9 w.heap.size _ rfl HH.out BP.out BE.out HBW.out (fun _ _ hb=>⟨fun e9=>absurd (HFF.out.trans e9) (by omega),fun _=>hb⟩) rfl rfl rfl
end Go.Proofs.YtiiojpnckbglcaaGreat
namespace Go.Proofs.YtiiojpnckbglcaaGreat
open Go.RowKit
def dr (n:Nat) (z:Nat->Int):Int:=if n < 20 then 5 else if 9000 < n then 4 else if aH z 0=5/\aH z 9=n then 0 else 9
def eC (n:Nat) (z:Nat->Int) (j:Nat):Int:=if dr n z=0 then aU z 10 j else 0
def jw (n:Nat) (z:Nat->Int):Nat:=if dr n z=0 then n-20 else 0
theorem sG (n:Nat) (z:Nat->Int) (h:dr n z ≠ 0):hdr (eC n z)=hdr (fun _=>0):=by
 unfold hdr eC;simp[h]
theorem rj (n:Nat) (z:Nat->Int) (h:dr n z=0):hdr (eC n z)=hdr (aU z 10):=by
 unfold hdr eC;simp[h]
def cV (n:Nat) (z:Nat->Int) (w:World) (e:Ending) (w':World):Prop:=
 ∃P c,e=.returned (.tuple #[.agg (hdr (eC n z)),.slice P (jw n z:Nat) c,.int .i64 (dr n z)])/\jw n z<=c/\
  w'.ownsRow w.heap.size 5 1 (.slice P (jw n z:Nat) c) (jw n z) ((List.range (jw n z)).map (fun j=>.int .u8 (z (20+j))))/\Below w.heap.size w w'
theorem cV.bad {n:Nat} {z:Nat->Int} {w:World} {e:Ending} {w':World} {x:Int} (h:gQ w x e w') (hx:dr n z=x) (h0:x ≠ 0):cV n z w e w':=by
 obtain⟨rfl,hb⟩:=h;subst hx;have hl:jw n z=0:=by unfold jw;rw[if_neg h0]
 refine⟨none,0,?_,by omega,?_,hb⟩
 ·rw[sG n z h0,hl]
 ·rw[hl];exact World.ownsRow_nil _ _ _ _
theorem lJ (A:Option Addr) (n c:Nat) (z:Nat->Int) (hnc:n<=c) (hz:∀j,j < n->0<=z j/\z j < 256) (w:World) (hr:au w w.heap.size A n (fun j=>.int .u8 (z j))) :
  Calls Tryz.prog 106 #[.slice A n c] w (cV n z w):=by
 by_cases h20:n < 20
 ·exact(mR A n c h20 w).mono fun _ _ h=>cV.bad h (by unfold dr;rw[if_pos h20]) (by decide)
 by_cases h9:9000 < n
 ·exact(pQ A n c h9 w).mono fun _ _ h=>cV.bad h (by unfold dr;rw[if_neg h20,if_pos h9]) (by decide)
 by_cases h5:aH z 0=5
 ·refine(oP A n c z (by omega) (by omega) hnc hz h5 w hr).mono fun e w' h=>?_;by_cases hl:aH z 9=n
  ·have h0:dr n z=0:=by unfold dr;rw[if_neg h20,if_neg h9,if_pos ⟨h5,hl⟩]
   obtain⟨P,c2,he,hc,ho,hb⟩:=h.1 hl;have hp:jw n z=n-20:=by unfold jw;rw[if_pos h0]
   exact⟨P,c2,by rw[he,rj n z h0,hp,h0],by omega,by rw[hp];exact ho,hb⟩
  ·exact cV.bad (h.2 hl) (by unfold dr;rw[if_neg h20,if_neg h9,if_neg (fun h=>hl h.2)]) (by decide)
 ·exact(lf A n c z (by omega) (by omega) hz (fun h=>h5 h) w hr).mono fun _ _ h=>cV.bad h (by unfold dr;rw[if_neg h20,if_neg h9,if_neg (fun h=>h5 h.1)]) (by decide)
theorem ae.nine {w:World} {g:Nat} {t:TypeId} {a0 a1 a2 a3 a4 a5 a6 a7 a8:Value} (h:ae w g t #[a0,a1,a2,a3,a4,a5,a6,a7,a8]) :
  w.cell? ⟨g,0,none⟩=some a0/\w.cell? ⟨g,1,none⟩=some a1/\w.cell? ⟨g,2,none⟩=some a2/\w.cell? ⟨g,3,none⟩=some a3/\w.cell? ⟨g,4,none⟩=some a4/\w.cell? ⟨g,5,none⟩=some a5/\w.cell? ⟨g,6,none⟩=some a6/\w.cell? ⟨g,7,none⟩=some a7/\w.cell? ⟨g,8,none⟩=some a8:=
 ⟨h.cell 0,h.cell 1,h.cell 2,h.cell 3,h.cell 4,h.cell 5,h.cell 6,h.cell 7,h.cell 8⟩
def hw (k:Nat):Int:=([1,2,3,4,5,6,7,8,0]:List Int).getD k 0
def wz (j:Nat):Int:=([81,0,2,0,0,0,3,0,0,0,4,5,6,0,7,0,0,8,0,21,170]:List Int).getD j 0
end Go.Proofs.YtiiojpnckbglcaaGreat
namespace Go.Proofs.YtiiojpnckbglcaaGreat
open Go.RowKit
attribute [local go_sem ↓] Go.wp_at_zero Go.wp_at_succ
theorem dJ (h0 h1 h2 h3 h4 h5 h6 h7 h8:Int) (w:World) :
  Calls Tryz.prog 109 #[.agg #[.int .i64 h0,.int .i64 h1,.int .i64 h2,.int .i64 h3,.int .i64 h4,.int .i64 h5,.int .i64 h6,.int .i64 h7,.int .i64 h8]] w fun e w'=>e=.returned (.agg #[.int .i64 h0,.int .i64 h1,.int .i64 h2,.int .i64 h3,.int .i64 h4])/\Below w.heap.size w w':=by
 go_enter Tryz.func109,Tryz.ntmps109;go_wp2
 exact bodyPost_ret (v:=.agg #[.int .i64 h0,.int .i64 h1,.int .i64 h2,.int .i64 h3,.int .i64 h4]) (by simp[results,Tryz.results109,go_sem]) rfl ⟨rfl,((Below.refl _ w).alloc ao _).alloc (by simp) _⟩
end Go.Proofs.YtiiojpnckbglcaaGreat
namespace Go.Proofs.YtiiojpnckbglcaaGreat
open Go.RowKit
theorem ae.five {w:World} {g:Nat} {t:TypeId} {a0 a1 a2 a3 a4:Value} (h:ae w g t #[a0,a1,a2,a3,a4]) :
  w.cell? ⟨g,0,none⟩=some a0/\w.cell? ⟨g,1,none⟩=some a1/\w.cell? ⟨g,2,none⟩=some a2/\w.cell? ⟨g,3,none⟩=some a3/\w.cell? ⟨g,4,none⟩=some a4:=
 ⟨h.cell 0,h.cell 1,h.cell 2,h.cell 3,h.cell 4⟩
end Go.Proofs.YtiiojpnckbglcaaGreat
namespace Go.Proofs.YtiiojpnckbglcaaGreat
open Go.RowKit
attribute [local go_sem ↓] Go.wp_at_zero Go.wp_at_succ
end Go.Proofs.YtiiojpnckbglcaaGreat
