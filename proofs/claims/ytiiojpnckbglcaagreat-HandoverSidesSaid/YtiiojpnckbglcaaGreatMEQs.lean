import Derived.Test.YtiiojpnckbglcaaGreatMEMs
import Derived.Defers
import Derived.Recover
import Derived.Laws.Pointers
import Derived.BigQuiet
import Derived.Deep.RegionWith
import Derived.Deep.DeepCutAuto
import Derived.Deep.CutRange
import Derived.Deep.CutBlock
set_option maxRecDepth 100000
set_option maxHeartbeats 1000000
set_option linter.unusedVariables false
set_option linter.unusedSimpArgs false
namespace Go.Proofs.YtiiojpnckbglcaaGreat
open Go.RowKit Go.Shelf
attribute [local go_sem] Oper.semAt_some
theorem m5 {P:Program} {fn:Func} {c₀:Frame} {u':FrameMode} {cs:List Frame} {X:World} {e:Exit} {a:Act} {w1:World} (hq:bodyPost P fn (fun en w'=>en=.returned (.tuple #[])/\w'=X) e a w1) :
  bodyPostS P fn c₀ cs (fun en u w'=>en=.returned (.tuple #[])/\u=u'/\w'=X) e a ({ c₀ with mode:=u' } :: cs) w1:=by
 cases e with
 | normal=>obtain⟨hd,v,hr,h1,h2⟩:=hq;exact⟨hd,_,rfl,v,hr,h1,rfl,h2⟩
 | ret=>obtain⟨hd,v,hr,h1,h2⟩:=hq;exact⟨hd,_,rfl,v,hr,h1,rfl,h2⟩
 | panic c=>obtain⟨hd,h1,h2⟩:=hq;cases h1
 | outgrown=>obtain⟨h1,h2⟩:=hq;cases h1
 | _=>exact hq.elim
def fB (w:World) (hb pb:Nat):World:=(((((((((w.setCell ⟨hb,0,none⟩ (.int .i64 0)).setCell ⟨hb,1,none⟩ (.int .i64 0)).setCell ⟨hb,2,none⟩ (.int .i64 0)).setCell ⟨hb,3,none⟩ (.int .i64 0)).setCell ⟨hb,4,none⟩ (.int .i64 0)).setCell ⟨hb,5,none⟩ (.int .i64 0)).setCell ⟨hb,6,none⟩ (.int .i64 0)).setCell ⟨hb,7,none⟩ (.int .i64 0)).setCell ⟨hb,8,none⟩ (.int .i64 0)).setCell ⟨pb,0,none⟩ (.slice none 0 0)
theorem vF (hb pb:Nat) (h:Nat->Int) (v:Value) (w:World) (hH:ae w hb 176 (hdr h)) (hP:ae w pb 44 #[v]) (hne:pb ≠ hb) :
  Calls Tryz.prog 126 #[.pointer (some ⟨hb,0,none⟩),.pointer (some ⟨pb,0,none⟩)] w fun e w'=>e=.returned (.tuple #[])/\w'=fB w hb pb:=by
 have c0:w.cell? ⟨hb,0,none⟩=some (.int .i64 (h 0)):=hH.cell 0;have f0:=hH.frozen 0;have c1:w.cell? ⟨hb,1,none⟩=some (.int .i64 (h 1)):=hH.cell 1;have f1:=hH.frozen 1;have c2:w.cell? ⟨hb,2,none⟩=some (.int .i64 (h 2)):=hH.cell 2;have f2:=hH.frozen 2;have c3:w.cell? ⟨hb,3,none⟩=some (.int .i64 (h 3)):=hH.cell 3;have f3:=hH.frozen 3;have c4:w.cell? ⟨hb,4,none⟩=some (.int .i64 (h 4)):=hH.cell 4;have f4:=hH.frozen 4;have c5:w.cell? ⟨hb,5,none⟩=some (.int .i64 (h 5)):=hH.cell 5;have f5:=hH.frozen 5;have c6:w.cell? ⟨hb,6,none⟩=some (.int .i64 (h 6)):=hH.cell 6;have f6:=hH.frozen 6;have c7:w.cell? ⟨hb,7,none⟩=some (.int .i64 (h 7)):=hH.cell 7;have f7:=hH.frozen 7;have c8:w.cell? ⟨hb,8,none⟩=some (.int .i64 (h 8)):=hH.cell 8;have f8:=hH.frozen 8;have cp:w.cell? ⟨pb,0,none⟩=some v:=hP.cell 0;have fp:=hP.frozen 0;have hne2:=Ne.symm hne;clear hH hP;go_enter Tryz.func126,Tryz.ntmps126;go_wp2;go_end0
 exact⟨rfl,rfl⟩
theorem iM (p:Addr) (hb pb:Nat) (h:Nat->Int) (v:Value) (x e:Int) (older:List PanicEntry) (w:World) (hH:ae w hb 176 (hdr h)) (hP:ae w pb 44 #[v]) (hne:pb ≠ hb) (hc:(fB w hb pb).cell? p=some (.int .i64 x)) (hz:(fB w hb pb).frozen? p=false) :
  CallsD Tryz.prog 125 #[.pointer (some p),.func (.func 126) #[] #[.pointer (some ⟨hb,0,none⟩),.pointer (some ⟨pb,0,none⟩)]] (.panicking ({ v:=.iface 37 (.int .i64 e),recovered:=false } :: older)) w fun en u' w'=>
   en=.returned (.tuple #[])/\u'=.panicking ({ v:=.iface 37 (.int .i64 e),recovered:=true } :: older)/\w'=(fB w hb pb).setCell p (.int .i64 e):=by
 have C:=Lib.hid (vF hb pb h v w hH hP hne);have hta:∀X:World,(Instr.typeAssert (.iface 37 (.int .i64 e)) 20 37 true).run Tryz.prog X=.ok (.tuple #[.int .i64 e,.bool true]) X:=fun X=>by kernel_rfl
 have HC:=Lib.hid hc;have HZ:=Lib.hid hz;clear hc hz hH hP;refine callsD_of_wpS Tryz.func125 rfl fun c₀ cs hu=>?_;simp only[Tryz.ntmps125,List.size_toArray,List.length_cons,List.length_nil,Nat.reduceAdd,Nat.reduceSub,Array.replicate_succ,Array.replicate_zero,List.push_toArray,List.append_toArray,List.nil_append,List.cons_append];apply wpS_seq;apply wpS_region;simp[wpOpsS,go_sem,recoverD,hu,Exit.thenS];refine wpS_of_wp (wp_mono (Q:=bodyPost Tryz.prog Tryz.f125 (fun en w'=>en=.returned (.tuple #[])/\w'=(fB w hb pb).setCell p (.int .i64 e))) ?_ ?_);rotate_left
 ·exact fun e a w1 hq=>m5 hq
 have HU:=Lib.hid hu;clear hu;go_wp2_with (go_at_call 126;refine(C.out).mono ?_;rintro e w1 ⟨rfl,rfl⟩;have c9:=HC.out;have z9:=HZ.out);go_end0
 exact⟨rfl,rfl⟩
theorem mW (p:Addr) (F:Value) (w:World) :
  CallsD Tryz.prog 125 #[.pointer (some p),F] .returning w fun e u' w'=>e=.returned (.tuple #[])/\u'=.returning/\w'=w:=by
 refine callsD_of_wpS Tryz.func125 rfl fun c₀ cs hu=>?_;simp only[Tryz.ntmps125,List.size_toArray,List.length_cons,List.length_nil,Nat.reduceAdd,Nat.reduceSub,Array.replicate_succ,Array.replicate_zero,List.push_toArray,List.append_toArray,List.nil_append,List.cons_append];apply wpS_seq;apply wpS_region;simp[wpOpsS,go_sem,recoverD,hu,Exit.thenS];refine wpS_of_wp (wp_mono (Q:=bodyPost Tryz.prog Tryz.f125 (fun en w'=>en=.returned (.tuple #[])/\w'=w)) ?_ ?_);rotate_left
 ·have hu2:({ c₀ with mode:=.returning }:Frame)=c₀:=by rw[<-hu]
  intro e a w1 hq;have:=m5 (c₀:=c₀) (cs:=cs) (u':=.returning) hq
  rwa [hu2]at this
 have HU:=Lib.hid hu;clear hu;go_wp2;go_end0
 exact⟨rfl,rfl⟩
def wW (g:Nat) (z:Nat->Int) (w:World) (e:Ending) (w':World):Prop:=
 ∃B c,e=.returned (.slice B 10 c)/\au w' w'.heap.size B 10 (fun j=>.int .u64 ((ef z (0+so iG j) (iG j):Nat):Int))/\w.grownBy w' (some g)
theorem nN (j:Nat) (hj:j < 10):iG j<=32:=yx (p:=fun j=>iG j<=32) (by decide) (by decide) (by decide) (by decide) (by decide) (by decide) (by decide) (by decide) (by decide) (by decide) j hj
theorem wY:so iG 10=160:=by decide
theorem tV (g:Nat) (A L:Option Addr) (len cap lc:Nat) (z:Nat->Int) (hl:len<=100000) (h20:20<=len) (hz:∀j,j < len->0<=z j/\z j < 256) (hLg:∀a,L=some a->a.block ≠ g) (hAg:∀a,A=some a->a.block < g) (w:World) (h:df w g A len cap z 0) (hL:au w w.heap.size L 10 (fun j=>.int .i64 (iG j:Nat))) :
  Calls Tryz.prog 129 #[.agg #[.pointer (some ⟨g,0,none⟩)],.slice L 10 lc] w (wW g z w):=by
 have hR:∀o:Obj,df (w.alloc o) g A len cap z 0:=fun o=>⟨(Below.heap_alloc w o g (Array.getElem?_eq_some_iff.1 h.1).1).trans h.1,bh h.2 o⟩
 have HG:=Lib.hid (fun o:Obj=>rq g A L len cap 0 10 lc z iG hl (by omega) nN (by rw[wY];omega) hz hLg hAg (w.alloc o) (hR o) (bh hL o));clear hR h hL hLg hAg hz h20 hl;go_enter Tryz.func129,Tryz.ntmps129;go_wp2_with (first | (go_at_call 169;refine(HG.out _).mono ?_;rintro e w1 ⟨B,c,rfl,hR1,hg1⟩;have HR1:=Lib.hid hR1;have HG1:=Lib.hid hg1;clear hR1 hg1) | (go_at_call 168;refine(xH _ _ _ _).mono ?_;rintro e w2 ⟨rfl,rfl⟩));go_ret;refine⟨B,c,rfl,HR1.out,?_⟩;have h1:=World.grownBy_alloc w (.cells #[.pointer (some ⟨g,0,none⟩)] 209) (some g)
 exact h1.trans HG1.out
def gQ (w:World) (n:Int) (e:Ending) (w':World):Prop:=
 e=.returned (.tuple #[.agg (hdr (fun _=>0)),.slice none 0 0,.int .i64 n])/\Below w.heap.size w w'
end Go.Proofs.YtiiojpnckbglcaaGreat
namespace Go.Proofs.YtiiojpnckbglcaaGreat
open Go.RowKit Go.Shelf
theorem ae.to {w:World} {g:Nat} {t:TypeId} {cs ds:Array Value} (h:ae w g t cs) (e:cs=ds):ae w g t ds:=e ▸ h
end Go.Proofs.YtiiojpnckbglcaaGreat
namespace Go.Proofs.YtiiojpnckbglcaaGreat
open Go.RowKit Go.Shelf
attribute [local go_sem] Oper.semAt_some
theorem sa {w:World} {hb pb:Nat} {h:Nat->Int} (hH:ae w hb 176 (hdr h)) (hne:pb ≠ hb):ae (fB w hb pb) hb 176 (hdr (fun _=>0)):=by
 have:=(((((((((hH.set_ 0 (.int .i64 0)).set_ 1 (.int .i64 0)).set_ 2 (.int .i64 0)).set_ 3 (.int .i64 0)).set_ 4 (.int .i64 0)).set_ 5 (.int .i64 0)).set_ 6 (.int .i64 0)).set_ 7 (.int .i64 0)).set_ 8 (.int .i64 0)).far (p:=⟨pb,0,none⟩) (Ne.symm hne) (.slice none 0 0)
 exact this.to (by simp[hdr])
theorem sI {w:World} {hb pb g:Nat} {t:TypeId} {cs:Array Value} (hB:ae w g t cs) (h1:g ≠ hb) (h2:g ≠ pb):ae (fB w hb pb) g t cs:=by
 unfold fB
 exact(((((((((hB.far (p:=⟨hb,0,none⟩) h1 _).far (p:=⟨hb,1,none⟩) h1 _).far (p:=⟨hb,2,none⟩) h1 _).far (p:=⟨hb,3,none⟩) h1 _).far (p:=⟨hb,4,none⟩) h1 _).far (p:=⟨hb,5,none⟩) h1 _).far (p:=⟨hb,6,none⟩) h1 _).far (p:=⟨hb,7,none⟩) h1 _).far (p:=⟨hb,8,none⟩) h1 _).far (p:=⟨pb,0,none⟩) h2 _
theorem rN {w:World} {hb pb:Nat} {v:Value} (hP:ae w pb 44 #[v]) (hne:pb ≠ hb):ae (fB w hb pb) pb 44 #[.slice none 0 0]:=by
 unfold fB
 exact((((((((((hP.far (p:=⟨hb,0,none⟩) hne _).far (p:=⟨hb,1,none⟩) hne _).far (p:=⟨hb,2,none⟩) hne _).far (p:=⟨hb,3,none⟩) hne _).far (p:=⟨hb,4,none⟩) hne _).far (p:=⟨hb,5,none⟩) hne _).far (p:=⟨hb,6,none⟩) hne _).far (p:=⟨hb,7,none⟩) hne _).far (p:=⟨hb,8,none⟩) hne _)).set_ 0 (.slice none 0 0)
theorem nc {w w0:World} {b hb pb:Nat} (h:Below b w0 w) (h1:b<=hb) (h2:b<=pb):Below b w0 (fB w hb pb):=by
 unfold fB
 exact(((((((((h.setCell h1 _).setCell h1 _).setCell h1 _).setCell h1 _).setCell h1 _).setCell h1 _).setCell h1 _).setCell h1 _).setCell h1 _).setCell h2 _
theorem gE (R:Ending->World->Prop) (w0 W:World) (h:Nat->Int) (v:Value) (x e:Int) (H:Nat) (tmps:Array Value) (hs:w0.heap.size=H) (hH:ae W H 176 (hdr h)) (hP:ae W (H+1) 44 #[v]) (hE:ae W (H+1+1) 37 #[.int .i64 x]) (hb:Below w0.heap.size w0 W) (hR:∀en w',gQ w0 e en w'->R en w')
  (h2:tmps.getD 2 undef=.pointer (some ⟨H,0,none⟩)) (h3:tmps.getD 3 undef=.pointer (some ⟨H+1,0,none⟩)) (h4:tmps.getD 4 undef=.pointer (some ⟨H+1+1,0,none⟩)) :
  bodyPostD Tryz.prog Tryz.f106 R (Exit.panic [{ v:=.iface 37 (.int .i64 e),recovered:=false }])
   { tmps:=tmps,defers:=[{ target:=.fn (.func 125) #[],args:=#[.pointer (some ⟨H+1+1,0,none⟩),.func (.func 126) #[] #[.pointer (some ⟨H,0,none⟩),.pointer (some ⟨H+1,0,none⟩)]] }] } W:=by
 have hne:H+1 ≠ H:=by omega
 have EW:=sI (hb:=H) (pb:=H+1) hE (by omega) (by omega);have HW:=sa (pb:=H+1) hH hne;have PW:=rN hP hne;refine leaves_cons (f:=125) (args:=#[.pointer (some ⟨H+1+1,0,none⟩),.func (.func 126) #[] #[.pointer (some ⟨H,0,none⟩),.pointer (some ⟨H+1,0,none⟩)]]) (by simp) (by simp[go_sem]) ?_;refine(iM ⟨H+1+1,0,none⟩ H (H+1) h v x e [] W hH hP hne (EW.cell 0) (EW.frozen 0)).mono ?_;rintro en u' w'' ⟨rfl,rfl,hw⟩;obtain⟨W2,hW2⟩:=af w''
 rw[<-hW2];rw[<-hW2]at hw;clear hW2;have BE:ae W2 (H+1+1) 37 #[.int .i64 e]:=by rw[hw];exact EW.set_ 0 _
 have BH:ae W2 H 176 (hdr (fun _=>0)):=by rw[hw];exact HW.far (by simp;omega) _
 have BP:ae W2 (H+1) 44 #[.slice none 0 0]:=by rw[hw];exact PW.far (by simp) _
 have hbl:Below w0.heap.size w0 W2:=by rw[hw];exact(nc hb (by omega) (by omega)).setCell (by simp;omega) _
 clear hw EW HW PW hH hP hE hb;have y0:W2.cell? ⟨H,0,none⟩=some (.int .i64 0):=BH.cell 0;have y1:W2.cell? ⟨H,1,none⟩=some (.int .i64 0):=BH.cell 1;have y2:W2.cell? ⟨H,2,none⟩=some (.int .i64 0):=BH.cell 2;have y3:W2.cell? ⟨H,3,none⟩=some (.int .i64 0):=BH.cell 3;have y4:W2.cell? ⟨H,4,none⟩=some (.int .i64 0):=BH.cell 4;have y5:W2.cell? ⟨H,5,none⟩=some (.int .i64 0):=BH.cell 5;have y6:W2.cell? ⟨H,6,none⟩=some (.int .i64 0):=BH.cell 6;have y7:W2.cell? ⟨H,7,none⟩=some (.int .i64 0):=BH.cell 7;have y8:W2.cell? ⟨H,8,none⟩=some (.int .i64 0):=BH.cell 8;have yp:W2.cell? ⟨H+1,0,none⟩=some (.slice none 0 0):=BP.cell 0;have ye:W2.cell? ⟨H+1+1,0,none⟩=some (.int .i64 e):=BE.cell 0;have HB:=Lib.hid hbl;clear BE BH BP hbl;simp at h2 h3 h4;simp[Leaves,settle,results,Tryz.results106,go_sem,h2,h3,h4,y0,y1,y2,y3,y4,y5,y6,y7,y8,yp,ye]
 exact hR _ _ ⟨rfl,HB.out⟩
theorem gV (w0 W:World) (h:Nat->Int) (v:Value) (x e:Int) (H:Nat) (tmps:Array Value) (hs:w0.heap.size=H) (hH:ae W H 176 (hdr h)) (hP:ae W (H+1) 44 #[v]) (hE:ae W (H+1+1) 37 #[.int .i64 x]) (hb:Below w0.heap.size w0 W)
  (h2:tmps.getD 2 undef=.pointer (some ⟨H,0,none⟩)) (h3:tmps.getD 3 undef=.pointer (some ⟨H+1,0,none⟩)) (h4:tmps.getD 4 undef=.pointer (some ⟨H+1+1,0,none⟩)) :
  bodyPostD Tryz.prog Tryz.f106 (gQ w0 e) (Exit.panic [{ v:=.iface 37 (.int .i64 e),recovered:=false }])
   { tmps:=tmps,defers:=[{ target:=.fn (.func 125) #[],args:=#[.pointer (some ⟨H+1+1,0,none⟩),.func (.func 126) #[] #[.pointer (some ⟨H,0,none⟩),.pointer (some ⟨H+1,0,none⟩)]] }] } W:=
 gE _ w0 W h v x e H tmps hs hH hP hE hb (fun _ _ h=>h) h2 h3 h4
theorem mR (A:Option Addr) (n c:Nat) (hn:n < 20) (w:World) :
  Calls Tryz.prog 106 #[.slice A n c] w (gQ w 5):=by
 have hmf:∀(fn:Fn) (first cap:Array Value) (w:World),(Instr.makeFunc fn first cap).run Tryz.prog w=.ok (.func fn first cap) w:=fun _ _ _ _=>rfl;have hn20:¬(20<=(n:Int)):=by omega
 go_enter_defers Tryz.func106,Tryz.ntmps106;go_wp2_with (go_at_call 127;refine(fy _ _).mono ?_;rintro e w1 ⟨rfl,rfl⟩);refine gV w _ (fun _=>0) (.slice none 0 0) 0 5 w.heap.size _ rfl ?_ ?_ ?_ ?_ rfl rfl rfl
 ·exact((ae.new w 176 (hdr (fun _=>0))).alloc _).alloc _
 ·have:=(ae.new (w.alloc (.cells (hdr (fun _=>0)) 176)) 44 #[.slice none 0 0])
  rw[World.size_alloc]at this
  exact this.alloc _
 ·have:=(ae.new ((w.alloc (.cells (hdr (fun _=>0)) 176)).alloc (.cells #[.slice none 0 0] 44)) 37 #[.int .i64 0])
  rw[World.size_alloc,World.size_alloc]at this
  exact this
 ·exact(((Below.refl _ w).alloc ao _).alloc (by simp) _).alloc (by simp;omega) _
theorem iW (w:World):∀W,W=((w.alloc (.cells #[.int .i64 0,.int .i64 0,.int .i64 0,.int .i64 0,.int .i64 0,.int .i64 0,.int .i64 0,.int .i64 0,.int .i64 0] 176)).alloc (.cells #[.slice none 0 0] 44)).alloc (.cells #[.int .i64 0] 37)->
  ae W w.heap.size 176 (hdr (fun _=>0))/\ae W (w.heap.size+1) 44 #[.slice none 0 0]/\ae W (w.heap.size+1+1) 37 #[.int .i64 0]/\Below w.heap.size w W/\W.heap.size=w.heap.size+1+1+1:=by
 rintro W rfl;refine⟨((ae.new w 176 (hdr (fun _=>0))).alloc _).alloc _,?_,?_,(((Below.refl _ w).alloc ao _).alloc (by simp) _).alloc (by simp;omega) _,by simp⟩
 ·have:=(ae.new (w.alloc (.cells (hdr (fun _=>0)) 176)) 44 #[.slice none 0 0])
  rw[World.size_alloc]at this
  exact this.alloc _
 ·have:=(ae.new ((w.alloc (.cells (hdr (fun _=>0)) 176)).alloc (.cells #[.slice none 0 0] 44)) 37 #[.int .i64 0])
  rw[World.size_alloc,World.size_alloc]at this
  exact this
theorem pQ (A:Option Addr) (n c:Nat) (hn:9000 < n) (w:World) :
  Calls Tryz.prog 106 #[.slice A n c] w (gQ w 4):=by
 have hmf:∀(fn:Fn) (first cap:Array Value) (w:World),(Instr.makeFunc fn first cap).run Tryz.prog w=.ok (.func fn first cap) w:=fun _ _ _ _=>rfl;have hn20:(20<=(n:Int)):=by omega
 have hn9:¬((n:Int)<=9000):=by omega
 have hd9:decide ((n:Int)<=9000)=false:=by simp;omega
 have hd20:decide (20<=(n:Int))=true:=by simp;omega
 go_enter_defers Tryz.func106,Tryz.ntmps106;go_wp2_with (first | (go_at_call 127;refine(fy 4 _).mono ?_;rintro e w1 ⟨rfl,rfl⟩) | (go_at_call 127;refine(dH 5 _).mono ?_;rintro e w1 ⟨rfl,rfl⟩));have T:=iW w _ rfl;refine gV w _ (fun _=>0) (.slice none 0 0) 0 4 w.heap.size _ rfl ?_ ?_ ?_ ?_ rfl rfl rfl
 ·exact T.1
 ·exact T.2.1
 ·exact T.2.2.1
 ·exact T.2.2.2.1
end Go.Proofs.YtiiojpnckbglcaaGreat
