import Derived.Test.YtiiojpnckbglcaaGreatMMJs
import Derived.RangeFuncNested
import Derived.RangeFuncBound
import Derived.RangeFuncCalls
import Derived.RangeFuncLeaves
import Derived.Shelf.Abstract
import Derived.Shelf.RegionOpen
import Derived.WalkKit
import Derived.OwnWalkIn
import Derived.TacticsInMore
import Derived.LoopNIn
import Derived.LoopIn
import Derived.RangeFuncBox
import Derived.Deep.RegionHeld3
import Derived.Laws.BitsAllLaws
import Derived.Maps.OwnSet
set_option maxRecDepth 100000
set_option maxHeartbeats 2000000
set_option linter.unusedVariables false
set_option linter.unusedSimpArgs false
namespace Go.Proofs.YtiiojpnckbglcaaGreat
open Go.RowKit
def bH (m:Nat) (z:Nat->Int):Int:=if dE m z=0 then fu z 4 else 0
def dB (m:Nat) (z:Nat->Int):Nat:=if dE m z=0 then ll m z else 0
theorem au.four_stores {w:World} {A:Option Addr} {n g:Nat} {v:Nat->Value} {t:TypeId} {k f x y k' f' x' y':Value} (h:au w w.heap.size A n v) (hB:ae w g t #[k,f,x,y])
  (hne:∀u j,u∈[k,f,x,y,k',f',x',y']->u ≠ v j) :
  au ((((w.setCell ⟨g,0,none⟩ k').setCell ⟨g,1,none⟩ f').setCell ⟨g,2,none⟩ x').setCell ⟨g,3,none⟩ y') ((((w.setCell ⟨g,0,none⟩ k').setCell ⟨g,1,none⟩ f').setCell ⟨g,2,none⟩ x').setCell ⟨g,3,none⟩ y').heap.size A n v:=by
 have ne:∀a b c d:Value,(∀u,u∈[a,b,c,d]->u∈[k,f,x,y,k',f',x',y'])->∀i:Nat,i < #[a,b,c,d].size->∀j,#[a,b,c,d][i]? ≠ some (v j):=by
  intro a b c d hs i hi j e;have hi4:i < 4:=hi
  match i,hi4 with
  | 0,_=>exact hne a j (hs a (by simp)) (by simpa using e)
  | 1,_=>exact hne b j (hs b (by simp)) (by simpa using e)
  | 2,_=>exact hne c j (hs c (by simp)) (by simpa using e)
  | 3,_=>exact hne d j (hs d (by simp)) (by simpa using e)
 have h1:=h.apart hB (ne _ _ _ _ (by simp_all)) (p:=⟨g,0,none⟩) rfl k';have B1:ae (w.setCell ⟨g,0,none⟩ k') g t #[k',f,x,y]:=hB.set_ 0 k';have h2:=h1.apart B1 (ne _ _ _ _ (by simp_all)) (p:=⟨g,1,none⟩) rfl f';have B2:ae ((w.setCell ⟨g,0,none⟩ k').setCell ⟨g,1,none⟩ f') g t #[k',f',x,y]:=B1.set_ 1 f';have h3:=h2.apart B2 (ne _ _ _ _ (by simp_all)) (p:=⟨g,2,none⟩) rfl x';have B3:ae (((w.setCell ⟨g,0,none⟩ k').setCell ⟨g,1,none⟩ f').setCell ⟨g,2,none⟩ x') g t #[k',f',x',y]:=B2.set_ 2 x'
 exact h3.apart B3 (ne _ _ _ _ (by simp_all)) (p:=⟨g,3,none⟩) rfl y'
def dz (z:Nat->Int) (j:Nat):Int:=z (1+j)
def jx (m:Nat) (z:Nat->Int):Int:=if m=0 then 5 else if z 0=0 then dE (m-1) (dz z) else if z 0=16 then (if m=1 then 5 else 0) else 9
def fR (m:Nat) (z:Nat->Int):Int:=if 1 < m/\z 0=16 then 1 else 0
def dN (m:Nat) (z:Nat->Int):Int:=if 0 < m/\z 0=0 then bH (m-1) (dz z) else 0
def iZ (m:Nat) (z:Nat->Int):Nat:=if 0 < m/\z 0=0 then dB (m-1) (dz z) else 0
def eL (m:Nat) (z:Nat->Int):Nat:=if 1 < m/\z 0=16 then m-1 else 0
def qM (m:Nat) (z:Nat->Int) (w:World) (e:Ending) (w':World):Prop:=
 ∃A c B d,e=.returned (.tuple #[.agg (qX (fR m z) (dN m z) A (iZ m z) c B (eL m z) d),.int .i64 (jx m z)])/\au w' w'.heap.size A (iZ m z) (fun j=>.bool (bO (pay (dz z)) j))/\au w' w'.heap.size B (eL m z) (fun j=>.int .u8 (dz z j))/\Below w.heap.size w w'
def od (n:Nat) (z:Nat->Int) (w:World) (e:Ending) (w':World):Prop:=
 ∃A2 c2,e=.returned (.tuple #[.agg #[.int .i64 (if n=0 then 0 else 1),.int .u32 0,.slice none 0 0,.slice A2 n c2],.int .i64 (if n=0 then 5 else 0)])/\au w' w'.heap.size A2 n (fun j=>.int .u8 (z j))/\Below w.heap.size w w'
theorem mi (A:Option Addr) (n c:Nat) (z:Nat->Int) (w:World) (hn:n<=140737488355328) (hr:au w w.heap.size A n (fun j=>.int .u8 (z j))) :
  Calls Tryz.prog 72 #[.slice A n c] w (od n z w):=by
 have HR:=Lib.hid hr;clear hr;by_cases h0:n=0
 ·subst h0;go_enter Tryz.func72,Tryz.ntmps72;go_wp2;refine bodyPost_ret (v:=.tuple #[.agg #[.int .i64 0,.int .u32 0,.slice none 0 0,.slice none 0 0],.int .i64 5]) (by simp[results,Tryz.results72,go_sem]) rfl ⟨none,0,rfl,au.nil,(Below.refl w.heap.size w).alloc ao _⟩
 ·have hnz:((n:Int) == 0)=false:=by simp;omega
  go_enter Tryz.func72,Tryz.ntmps72;go_wp2_with (go_at_call 39;refine(bw _ _ _ z _ hn (HR.out.alloc ao _ |>.more (by simp))).mono ?_;rintro e w1 ⟨A2,c2,rfl,_,hR,hfr,hb⟩;have R0:ae w1 w.heap.size 72 #[.int .i64 0,.int .u32 0,.slice none 0 0,.slice none 0 0]:=(ae.new _ _ _).below hb (by simp);obtain⟨c0,c1',c2',c3,f0,f1,f2,f3⟩:=R0.four;have R:=Lib.hid R0;clear R0);obtain⟨y0,y1,y2,y3,_,_,_,_⟩:=ae.four (a:=.int .i64 1) (b:=.int .u32 0) (c:=.slice none 0 0) (d:=.slice A2 n c2) ((((R.out.set_ 0 (.int .i64 1)).set_ 1 (.int .u32 0)).set_ 2 (.slice none 0 0)).set_ 3 (.slice A2 n c2));refine bodyPost_ret (v:=.tuple #[.agg #[.int .i64 1,.int .u32 0,.slice none 0 0,.slice A2 n c2],.int .i64 0]) (by simp[results,Tryz.results72,go_sem,y0,y1,y2,y3]) rfl ⟨A2,c2,by rw[if_neg h0,if_neg h0],hR.four_stores R.out (by intro u j hu;simp at hu;rcases hu with rfl | rfl | rfl | rfl | rfl | rfl | rfl | rfl<;>simp),?_⟩
  exact(((((((Below.refl w.heap.size w).alloc ao _).trans (hb.mono (by simp))).setCell (by simp) _).setCell (by simp) _).setCell (by simp) _).setCell (by simp) _)
end Go.Proofs.YtiiojpnckbglcaaGreat
namespace Go.Proofs.YtiiojpnckbglcaaGreat
open Go.RowKit Go.Shelf
attribute [local go_sem] Oper.semAt_some
def dZ (z:Nat->Int) (m:Nat):List Bool:=(List.range m).map (bO z)
theorem ky (z:Nat->Int) (m:Nat):(dZ z m).length=m:=by simp[dZ]
theorem jg (z:Nat->Int) (m:Nat):dZ z (m+1)=dZ z m++[bO z m]:=by simp[dZ,List.range_succ]
theorem pT (q c:Nat) (A:Option Addr) (z:Nat->Int) (hq:q<=256) (hz:∀j,j < q->0<=z j/\z j < 256) (bx n0 g n:Nat) (w:World) (hbx:bx < n0) (hbg:bx ≠ g) (hn0:n0<=w.heap.size) (hB:ae w bx 44 #[.slice A q c]) (gb:Nat) (hgb:gb<=g) (hgn:gb<=n0) (hr:au w gb A q (fun j=>.int .u8 (z j))) (hn:1<=n) :
  SeqStopsK Fence.wide n Tryz.prog 121 #[.pointer (some ⟨bx,0,none⟩)] (fun b:Bool=>#[.bool b]) (bG n0 g) (fun xs=>xs=dZ z (8*q)) (fun pre=>∃m,m<=8*q/\pre=dZ z m) (8*q) w:=fun l J Jx W hW hJ hJx hY h0=>by
 have HJ:=Lib.hid hJ;have HY:=Lib.hid hY;have HZ:=Lib.hid hz;have hBW:=hB.below hW (by omega);have hRW:=Lib.hid (hr.below (hW.mono (ba hgn hn0)));clear hJ hJx hY hB hz hr;refine callsIn_of_wp Tryz.func121 rfl trivial ?_ rfl;simp only[Tryz.ntmps121,List.size_toArray,List.length_cons,List.length_nil,Nat.reduceAdd,Nat.reduceSub,Array.replicate_succ,Array.replicate_zero,List.push_toArray,List.append_toArray,List.nil_append,List.cons_append];have c0:W.cell? ⟨bx,0,none⟩=some (.slice A q c):=hBW.cell 0;obtain⟨N,hN⟩:=af (8*q)
 have hNi:(8:Int)*(q:Int)=(N:Int):=by omega
 have HN:=Lib.hid hN;clear hN
 gi_wp2
 gi_loopw [7] (fun v7 wr=>∃i:Nat,i<=N/\v7=.int .i64 i/\J (dZ z i) wr/\bG n0 g W wr) (fun v7 _=>N-(intOf v7).toNat)
 case atStart=>exact⟨0,Nat.zero_le _,rfl,h0,bG.refl _ _ _⟩
 case round=>
  obtain⟨i,hi,rfl,hJi,hb⟩:=hrel;have d0:wr.cell? ⟨bx,0,none⟩=some (.slice A q c):=(hb.blk hBW (by omega) hbg).cell 0;by_cases hlt:i < N
  ·have hid:i / 8 < q:=by have:=HN.out;omega
   obtain⟨lb,lo,rfl,hlb,hlc⟩:=hRW.out (by omega);obtain⟨x,hx⟩:∃x:Nat,z (i / 8)=(x:Int):=⟨(z (i / 8)).toNat,by have:=HZ.out (i / 8) hid;omega⟩
   have hx256:x < 256:=by have:=HZ.out (i / 8) hid;omega
   have hci:wr.cell? ⟨lb,lo+i / 8,none⟩=some (.int .u8 (x:Int)):=by rw[<-hx];exact(di (p:=⟨lb,lo+i / 8,none⟩) (hb lb (by omega) (by omega))).trans (hlc _ hid)
   have HX:=Lib.hid hx;have hid':(i:Int) / 8 < (q:Int):=by omega
   clear hx hlc;obtain⟨fn,tmps,assign,body,hy,hR⟩:=HY.out (dZ z i) (bO z i) wr hJi (by rw[ky,<-HN.out];exact hlt);have HRr:=Lib.hid hR;have hbit:=tq z i x HX.out hx256;clear hR
   gi_wp2
   refine HRr.out.mono ?_;rintro e w4 (⟨rfl,hJ4,hk4⟩ | ⟨rfl,hx4⟩)
   ·gi_wp2
    go_roundw
    case rel=>exact⟨i+1,by omega,by go_num,by rw[jg];exact hJ4,hb.trans hk4⟩
    case measure=>simp[intOf];omega
   ·gi_wp2
    refine bodyPost_ret (results_none rfl _ _ _) rfl ?_
    exact⟨⟨_,rfl⟩,.inr ⟨dZ z (i+1),⟨i+1,by have:=HN.out;omega,rfl⟩,by rw[jg];exact hx4⟩⟩
  ·gi_wp2
   go_end0;obtain rfl:i=N:=by omega
   have e:=HN.out;subst e
   exact⟨⟨_,rfl⟩,.inl ⟨_,rfl,hJi⟩⟩
theorem yR (x0 x1 x2 x3:Nat) (h0:x0 < 256) (h1:x1 < 256) (h2:x2 < 256) (h3:x3 < 256) :
  bits BinOp.or .u32 (bits BinOp.or .u32 (bits BinOp.or .u32 (IntKind.u32.wrap (IntKind.u32.wrap (x0:Int)*16777216)) (IntKind.u32.wrap (IntKind.u32.wrap (x1:Int)*65536))) (IntKind.u32.wrap (IntKind.u32.wrap (x2:Int)*256))) (IntKind.u32.wrap (x3:Int))=((((x0*256+x1)*256+x2)*256+x3:Nat):Int):=by
 have w0:IntKind.u32.wrap (IntKind.u32.wrap (x0:Int)*16777216)=((x0*2 ^ 24:Nat):Int):=by simp[IntKind.wrap_u32];omega
 have w1:IntKind.u32.wrap (IntKind.u32.wrap (x1:Int)*65536)=((x1*2 ^ 16:Nat):Int):=by simp[IntKind.wrap_u32];omega
 have w2:IntKind.u32.wrap (IntKind.u32.wrap (x2:Int)*256)=((x2*2 ^ 8:Nat):Int):=by simp[IntKind.wrap_u32];omega
 have w3:IntKind.u32.wrap (x3:Int)=((x3:Nat):Int):=by simp[IntKind.wrap_u32];omega
 rw[w0,w1,w2,w3];rw[u32_or_nat _ _ (by omega) (by omega),eQ _ _ _ (by omega)];rw[show x0*2 ^ 24+x1*2 ^ 16=(x0*2 ^ 8+x1)*2 ^ 16 by omega];rw[u32_or_nat _ _ (by omega) (by omega),eQ _ _ _ (by omega)];rw[show(x0*2 ^ 8+x1)*2 ^ 16+x2*2 ^ 8=((x0*2 ^ 8+x1)*2 ^ 8+x2)*2 ^ 8 by omega];rw[u32_or_nat _ _ (by omega) (by omega),eQ _ _ _ (by omega)]
theorem xL (lb lo m c:Nat) (h4:4<=m) (hmc:m<=c):∃lo4,(∀w,(Instr.slice 44 (.slice (some ⟨lb,lo,none⟩) m c) (some (.int .i64 4)) none none).run Tryz.prog w=.ok (.slice (some ⟨lb,lo4,none⟩) (m-4) (c-4)) w)/\(4 < m->lo4=lo+4):=by
 have hm0:(4:Int)<=(m:Int):=by omega
 by_cases hc:c=4
 ·subst hc
  exact⟨lo,fun w=>by simp[go_sem,hm0],fun h=>by omega⟩
 ·exact⟨lo+4,fun w=>by simp[go_sem,hm0,hc],fun _=>rfl⟩
theorem ec {w:World} {g D:Nat} (hne:D ≠ g) {o:Obj} (h:w.heap[D]? = some o) (a b c d:Value):((((w.setCell ⟨g,0,none⟩ a).setCell ⟨g,1,none⟩ b).setCell ⟨g,2,none⟩ c).setCell ⟨g,3,none⟩ d).heap[D]? = some o:=by
 rw[Below.heap_setCell _ _ _ D hne,Below.heap_setCell _ _ _ D hne,Below.heap_setCell _ _ _ D hne,Below.heap_setCell _ _ _ D hne];exact h
theorem sg (A:Option Addr) (q c:Nat) (w:World) :
  Calls Tryz.prog 100 #[.slice A q c] w fun e w'=>e=.returned (.func (.func 121) #[] #[.pointer (some ⟨w.heap.size,0,none⟩)])/\w.alloc (.cells #[.slice A q c] 44)=w':=by
 go_enter Tryz.func100,Tryz.ntmps100;go_wp2;go_ret
 exact⟨rfl,rfl⟩
end Go.Proofs.YtiiojpnckbglcaaGreat
namespace Go.Proofs.YtiiojpnckbglcaaGreat
open Go.RowKit
def qw:Array MapEntry:=#[{ key:=.int .u8 0,val:=.func (.func 71) #[] #[],born:=0 }]
def jZ:Array MapEntry:=#[{ key:=.int .u8 0,val:=.func (.func 71) #[] #[],born:=0 },{ key:=.int .u8 16,val:=.func (.func 72) #[] #[],born:=1 }]
theorem oE (W:World) (r:Nat) (es:Array MapEntry) (c:Nat) (x:Int) (v:Value) (hb:W.heap[r]? = some (.map es c)) (hf:Instr.findNow (.int .u8) (.int .u8 x) es.toList 0=some none) :
  (Instr.mapUpdate 125 (.map (some r)) (.int .u8 x) v).run Tryz.prog W=.ok () { W with heap:=W.heap.setIfInBounds r (.map (es.push { key:=.int .u8 x,val:=v,born:=c }) (c+1)) }:=by
 have hc:∀e:Bool,(Instr.checkKey e 10000 5 (.int .u8 x)).run Tryz.prog W=.ok () W:=fun e=>MapKept.run_checkKey (k:=.int .u8 x) Tryz.underlying5 (by simp[MapKept.IsKey]) e 9999;simp[Instr.mapUpdate,run_underlying Tryz.underlying125,MapKept.run_getObj_map hb,hc,MapKept.run_findKey Tryz.underlying5 hf,MapKept.run_setObj_map _ hb,Result.andThen]
theorem kB (W:World) (r:Nat) (es:Array MapEntry) (c:Nat) (x:Int) (a:Option (Nat×Value)) (hb:W.heap[r]? = some (.map es c)) (hf:Instr.findNow (.int .u8) (.int .u8 x) es.toList 0=some a) :
  (Instr.lookup 125 (.map (some r)) (.int .u8 x) true).run Tryz.prog W=.ok (match a with | some (_,v)=>.tuple #[v,.bool true] | none=>.tuple #[.nilFunc,.bool false]) W:=by
 have hc:∀e:Bool,(Instr.checkKey e 10000 5 (.int .u8 x)).run Tryz.prog W=.ok () W:=fun e=>MapKept.run_checkKey (k:=.int .u8 x) Tryz.underlying5 (by simp[MapKept.IsKey]) e 9999;have hz:∀W,(zeroValue 74).run Tryz.prog W=.ok .nilFunc W:=fun W=>by kernel_rfl
 rcases a with _ | ⟨i,v⟩<;>simp[Instr.lookup,run_underlying Tryz.underlying125,MapKept.run_getObj_map hb,hc,MapKept.run_findKey Tryz.underlying5 hf,hz,Result.andThen]
theorem oV (W:World):∃X1 X2,(Instr.mapUpdate 125 (.map (some W.heap.size)) (.int .u8 0) (.func (.func 71) #[] #[])).run Tryz.prog (W.alloc (.map #[] 0))=.ok () X1/\
  (Instr.mapUpdate 125 (.map (some W.heap.size)) (.int .u8 16) (.func (.func 72) #[] #[])).run Tryz.prog X1=.ok () X2/\Below W.heap.size W X2/\X2.heap[W.heap.size]? = some (.map jZ 2):=by
 have h1:=oE (W.alloc (.map #[] 0)) W.heap.size #[] 0 0 (.func (.func 71) #[] #[]) (World.alloc_heap_new W _) rfl;have h2:=oE ((W.alloc (.map #[] 0)).putObj W.heap.size (.map qw 1)) W.heap.size qw 1 16 (.func (.func 72) #[] #[]) (World.putObj_heap_same (by simp)) rfl;refine⟨_,_,h1,h2,?_,World.putObj_heap_same (w:=(W.alloc (.map #[] 0)).putObj W.heap.size (.map qw 1)) (o:=.map jZ 2) (by simp)⟩
 exact(((Below.refl _ W).alloc ao _).grown (grownBy_putObj' _ W.heap.size (.map qw 1)) (by simp) (fun k e=>by cases e;exact Nat.le_refl _)).grown (grownBy_putObj' _ W.heap.size (.map jZ 2)) (by simp) (fun k e=>by cases e;exact Nat.le_refl _)
theorem xR (lb lo m c:Nat) (h1:1<=m) (hmc:m<=c):∃lo1,(∀w,(Instr.slice 44 (.slice (some ⟨lb,lo,none⟩) m c) (some (.int .i64 1)) none none).run Tryz.prog w=.ok (.slice (some ⟨lb,lo1,none⟩) (m-1) (c-1)) w)/\(1 < m->lo1=lo+1):=by
 have hm0:(1:Int)<=(m:Int):=by omega
 by_cases hc:c=1
 ·subst hc
  exact⟨lo,fun w=>by simp[go_sem,hm0],fun h=>by omega⟩
 ·exact⟨lo+1,fun w=>by simp[go_sem,hm0,hc],fun _=>rfl⟩
end Go.Proofs.YtiiojpnckbglcaaGreat
