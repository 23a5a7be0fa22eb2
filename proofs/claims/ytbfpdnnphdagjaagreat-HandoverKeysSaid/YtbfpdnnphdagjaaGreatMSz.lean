import Derived.Test.YtbfpdnnphdagjaaGreatMRz
import Derived.RangeFuncNested
import Derived.RangeFuncBound
import Derived.RangeFuncCalls
import Derived.RangeFuncLeaves
import Derived.Shelf.Abstract
import Derived.Shelf.RegionOpen
import Derived.WalkKit
import Derived.OwnWalkIn
import Derived.TacticsInMore
import Derived.LoopNIn
import Derived.LoopIn
import Derived.RangeFuncBox
set_option maxRecDepth 100000
set_option maxHeartbeats 2000000
set_option linter.unusedVariables false
set_option linter.unusedSimpArgs false
namespace Go.Proofs.YtbfpdnnphdagjaaGreat
open Go.RowKit Go.Shelf
attribute [local go_sem] Oper.semAt_some
def dB (z:Nat->Int) (m:Nat):List Bool:=(List.range m).map (cE z)
theorem je (z:Nat->Int) (m:Nat):(dB z m).length=m:=by simp[dB]
theorem ia (z:Nat->Int) (m:Nat):dB z (m+1)=dB z m++[cE z m]:=by simp[dB,List.range_succ]
theorem oJ (q c:Nat) (A:Option Addr) (z:Nat->Int) (hq:q<=256) (hz:∀j,j < q->0<=z j/\z j < 256) (bx n0 g n:Nat) (w:World) (hbx:bx < n0) (hbg:bx ≠ g) (hn0:n0<=w.heap.size) (hB:ae w bx 41 #[.slice A q c]) (gb:Nat) (hgb:gb<=g) (hgn:gb<=n0) (hr:az w gb A q (fun j=>.int .u8 (z j))) (hn:1<=n) :
  SeqStopsK Fence.wide n Tryz.prog 85 #[.pointer (some ⟨bx,0,none⟩)] (fun b:Bool=>#[.bool b]) (bw n0 g) (fun xs=>xs=dB z (8*q)) (fun pre=>∃m,m<=8*q/\pre=dB z m) (8*q) w:=fun l J Jx W hW hJ hJx hY h0=>by
 have HJ:=Lib.hid hJ;have HY:=Lib.hid hY;have HZ:=Lib.hid hz;have hBW:=hB.below hW (by omega);have hRW:=Lib.hid (hr.below (hW.mono (bm hgn hn0)));clear hJ hJx hY hB hz hr;refine callsIn_of_wp Tryz.func85 rfl trivial ?_ rfl;simp only[Tryz.ntmps85,List.size_toArray,List.length_cons,List.length_nil,Nat.reduceAdd,Nat.reduceSub,Array.replicate_succ,Array.replicate_zero,List.push_toArray,List.append_toArray,List.nil_append,List.cons_append];have c0:W.cell? ⟨bx,0,none⟩=some (.slice A q c):=hBW.cell 0;obtain⟨N,hN⟩:=ah (8*q)
 have hNi:(8:Int)*(q:Int)=(N:Int):=by omega
 have HN:=Lib.hid hN;clear hN
 gi_wp2
 gi_loopw [7] (fun v7 wr=>∃i:Nat,i<=N/\v7=.int .i64 i/\J (dB z i) wr/\bw n0 g W wr) (fun v7 _=>N-(intOf v7).toNat)
 case atStart=>exact⟨0,Nat.zero_le _,rfl,h0,bw.refl _ _ _⟩
 case round=>
  obtain⟨i,hi,rfl,hJi,hb⟩:=hrel;have d0:wr.cell? ⟨bx,0,none⟩=some (.slice A q c):=(hb.blk hBW (by omega) hbg).cell 0;by_cases hlt:i < N
  ·have hid:i / 8 < q:=by have:=HN.out;omega
   obtain⟨lb,lo,rfl,hlb,hlc⟩:=hRW.out (by omega);obtain⟨x,hx⟩:∃x:Nat,z (i / 8)=(x:Int):=⟨(z (i / 8)).toNat,by have:=HZ.out (i / 8) hid;omega⟩
   have hx256:x < 256:=by have:=HZ.out (i / 8) hid;omega
   have hci:wr.cell? ⟨lb,lo+i / 8,none⟩=some (.int .u8 (x:Int)):=by rw[<-hx];exact(jP (p:=⟨lb,lo+i / 8,none⟩) (hb lb (by omega) (by omega))).trans (hlc _ hid)
   have HX:=Lib.hid hx;have hid':(i:Int) / 8 < (q:Int):=by omega
   clear hx hlc;obtain⟨fn,tmps,assign,body,hy,hR⟩:=HY.out (dB z i) (cE z i) wr hJi (by rw[je,<-HN.out];exact hlt);have HRr:=Lib.hid hR;have hbit:=vD z i x HX.out hx256;clear hR
   gi_wp2
   refine HRr.out.mono ?_;rintro e w4 (⟨rfl,hJ4,hk4⟩ | ⟨rfl,hx4⟩)
   ·gi_wp2
    go_roundw
    case rel=>exact⟨i+1,by omega,by go_num,by rw[ia];exact hJ4,hb.trans hk4⟩
    case measure=>simp[intOf];omega
   ·gi_wp2
    refine bodyPost_ret (results_none rfl _ _ _) rfl ?_
    exact⟨⟨_,rfl⟩,.inr ⟨dB z (i+1),⟨i+1,by have:=HN.out;omega,rfl⟩,by rw[ia];exact hx4⟩⟩
  ·gi_wp2
   go_end0;obtain rfl:i=N:=by omega
   have e:=HN.out;subst e
   exact⟨⟨_,rfl⟩,.inl ⟨_,rfl,hJi⟩⟩
end Go.Proofs.YtbfpdnnphdagjaaGreat
