import Derived.Test.YtnadmdadcpemnaaGreatMSDx
import Derived.Test.YtnadmdadcpemnaaGreatMZOx
import Derived.Test.YtnadmdadcpemnaaGreatMZMx
import Derived.Test.YtnadmdadcpemnaaGreatKNx
import Derived.Test.YtnadmdadcpemnaaGreatTAx
import Derived.Test.YtnadmdadcpemnaaGreatMDAx
import Derived.Deep.Slices
namespace Go.Proofs.YtnadmdadcpemnaaGreat
open Go.RowKit Go.ChangeShapes Go.WideShapes Go.ChangeAt
set_option linter.unusedVariables false
attribute [local go_sem ↓] Go.wp_at_zero Go.wp_at_succ
private theorem zh {p:Prop} (h:p):Go.RowKit.Hid p:=h
structure St6 where
 kind:Int
 now:Int
 A:Option Addr
 n:Nat
 c:Nat
 z:Nat→Int
 key:Nat→Int
 code:Nat→Int
def St6.cell (s:St6) (j:Nat):Value:=if j=0 then .int .i64 s.kind else if j=1 then .int .i64 s.now else if j=2 then .slice s.A s.n s.c else if j < 19 then .int .u8 (s.key (j-3)) else .int .u8 (s.code (j-19))
structure St6Ok (w:World) (s:St6):Prop where
 knd:-9223372036854775808≤s.kind∧s.kind≤9223372036854775807
 now:-9223372036854775808≤s.now∧s.now≤9223372036854775807
 mx:s.n≤maxLen
 cap:s.n≤s.c
 byte:∀j,j < s.n→0≤s.z j∧s.z j < 256
 key:∀j,j < 16→0≤s.key j∧s.key j < 256
 code:∀j,j < 16→0≤s.code j∧s.code j < 256
 row:Row w w.heap.size s.A s.n (fun j=>.int .u8 (s.z j))
theorem St6Ok.below {w w':World} {s:St6} (h:St6Ok w s) (hb:Below w.heap.size w w'):St6Ok w' s:=⟨h.knd,h.now,h.mx,h.cap,h.byte,h.key,h.code,h.row.next hb⟩
structure Steps6 (w:World) (A:Option Addr) (m:Nat) (S:Nat→St6):Prop where
 at_:m ≠ 0→∃lb lo,A=some ⟨lb,lo,none⟩∧lb < w.heap.size∧∀k,k < m→∀j,j < 35→w.cell? ⟨lb,lo+k*35+j,none⟩=some ((S k).cell j)
 ok:∀k,k < m→St6Ok w (S k)
theorem Steps6.below {w w':World} {A:Option Addr} {m:Nat} {S:Nat→St6} (h:Steps6 w A m S) (hb:Below w.heap.size w w'):Steps6 w' A m S:=
 ⟨fun hm=>by
  obtain⟨lb,lo,e,hlt,hc⟩:=h.at_ hm
  exact⟨lb,lo,e,Nat.lt_of_lt_of_le hlt hb.size,fun k hk j hj=>(hb.cell (p:=⟨lb,lo+k*35+j,none⟩) hlt).trans (hc k hk j hj)⟩,fun k hk=>(h.ok k hk).below hb⟩
section
variable {H:Type} {enc:TypeId×Value→H} {w:World} {base:Nat} {spare:Nat→Bool} {held:Bool}
theorem open_bytesR6 {fuel:Nat} {v:Value} {x:DataW H×List MemPlace} (h:DataW.trod enc Tryz.prog w base spare held fuel 35 [v] = some x) (hsp:∀b,spare b=true) :
  ∃a len cap zs,v=.slice a len cap∧IsRow .u8 w a len cap zs:=by
 rcases open_ints Tryz.underlying35 Tryz.underlying5 (by kernel_rfl) h with ⟨hcs,_⟩ | ⟨x,l,c,zs,hcs,_,hl,hm,hz,_,hcell,hwz⟩
 ·simp at hcs
  subst hcs
  exact⟨none,0,0,[],rfl,.inl ⟨rfl,rfl,rfl,rfl⟩⟩
 ·simp at hcs
  subst hcs
  rw[if_pos (hsp _)]at hz
  exact⟨some x,l,c,zs,rfl,.inr ⟨x,rfl,hl,hm,hz,hcell,hwz⟩⟩
theorem open_step6 {fuel:Nat} {cs:List Value} {x:DataW H×List MemPlace} (h:DataW.trod enc Tryz.prog w base spare held fuel 57 cs=some x) (hsp:∀b,spare b=true):∃s:St6,(∀j,j < 35→cs[j]? = some (s.cell j))∧St6Ok w s:=by
 obtain⟨xs,n,_,_,hlc,hlen,hg⟩:=DataW.trod_struct Tryz.underlying57 h
 have c3:Tryz.prog.cellsOf 3 = 1:=by kernel_rfl
 have c27:Tryz.prog.cellsOf 35 = 1:=by kernel_rfl
 have c16:Tryz.prog.cellsOf 23 = 16:=by kernel_rfl
 have hc35:Tryz.prog.cellsOf 57 = 35:=by kernel_rfl
 rw[hc35]at hlc
 have hx6:xs.length=5:=hlen
 have keyi:∀(i o:Nat) (k:IntKind) (ty:TypeId),Tryz.prog.underlying ty=some (.int k)→i < 5→DataW.trod enc Tryz.prog w base spare held n ty ((cs.drop o).take 1)=xs[i]?→∃a,cs[o]? = some (Value.int k a)∧(Lit.int k a).wf=true:=by
  intro i o k ty hu hi h1
  rw[List.getElem?_eq_getElem (by omega)]at h1
  obtain⟨a,e,_,hw⟩:=DataW.trod_int hu h1
  refine⟨a,?_,hw⟩
  have h2:=congrArg List.head? e
  simp[List.head?_take]at h2
  exact h2
 have keya:∀(i o:Nat),i < 5→DataW.trod enc Tryz.prog w base spare held n 23 ((cs.drop o).take 16)=xs[i]?→∃f:Nat→Int,(∀j,j < 16→cs[o+j]? = some (.int .u8 (f j)))∧∀j,j < 16→0≤f j∧f j < 256:=by
  intro i o hi h1
  rw[List.getElem?_eq_getElem (by omega)]at h1
  obtain⟨f,e,hb⟩:=open_b16 h1
  refine⟨f,fun j hj=>?_,hb⟩
  have:=e j hj
  rwa [List.getElem?_take,if_pos hj,List.getElem?_drop]at this
 have g0:DataW.trod enc Tryz.prog w base spare held n 3 ((cs.drop 0).take (Tryz.prog.cellsOf 3))=xs[0]?:=hg 0 _ rfl
 have g1:DataW.trod enc Tryz.prog w base spare held n 3 ((cs.drop 1).take (Tryz.prog.cellsOf 3))=xs[1]?:=hg 1 _ rfl
 have g3:DataW.trod enc Tryz.prog w base spare held n 35 ((cs.drop 2).take (Tryz.prog.cellsOf 35))=xs[2]?:=hg 2 _ rfl
 have g4:DataW.trod enc Tryz.prog w base spare held n 23 ((cs.drop 3).take (Tryz.prog.cellsOf 23))=xs[3]?:=hg 3 _ rfl
 have g5:DataW.trod enc Tryz.prog w base spare held n 23 ((cs.drop 19).take (Tryz.prog.cellsOf 23))=xs[4]?:=hg 4 _ rfl
 rw[c3]at g0 g1
 rw[c27]at g3
 rw[c16]at g4 g5
 obtain⟨a0,e0,w0⟩:=keyi 0 0 .i64 _ Tryz.underlying3 (by decide) g0
 obtain⟨a1,e1,w1⟩:=keyi 1 1 .i64 _ Tryz.underlying3 (by decide) g1
 obtain⟨f4,e4,r4⟩:=keya 3 3 (by decide) g4
 obtain⟨f5,e5,r5⟩:=keya 4 19 (by decide) g5
 obtain⟨v3,e3⟩:∃v,cs[2]? = some v:=⟨cs[2],List.getElem?_eq_getElem (by omega)⟩
 have h3:(cs.drop 2).take 1=[v3]:=by
  rw[List.drop_eq_getElem_cons (by omega),List.take_succ_cons,List.take_zero]
  rw[List.getElem?_eq_getElem (by omega)]at e3
  rw[Option.some.inj e3]
 rw[h3,List.getElem?_eq_getElem (by omega)]at g3
 obtain⟨A,len,cap,zs,rfl,hr⟩:=open_bytesR6 g3 hsp
 have b0:=bounds_i64 w0
 have b1:=bounds_i64 w1
 have hu:=isRow_u8 hr
 have hb0:-9223372036854775808≤a0∧a0≤9223372036854775807:=by omega
 have hb1:-9223372036854775808≤a1∧a1≤9223372036854775807:=by omega
 have hmx:len≤maxLen:=by rcases hr with ⟨_,h,_⟩ | ⟨_,_,h1,h2,_⟩<;>omega
 refine⟨⟨a0,a1,A,len,cap,fun j=>zs.getD j 0,f4,f5⟩,fun j hj=>?_,⟨hb0,hb1,hmx,hu.1,hu.2,r4,r5,isRow_row hr⟩⟩
 unfold St6.cell
 rcases (by omega:j=0∨j=1∨j=2∨(3≤j∧j < 19)∨(19≤j∧j < 35))with rfl | rfl | rfl | hj2 | hj2
 ·exact e0
 ·exact e1
 ·exact e3
 ·rw[if_neg (by omega),if_neg (by omega),if_neg (by omega),if_pos (by omega)]
  have:=e4 (j-3) (by omega)
  rwa [show 3+(j-3)=j by omega]at this
 ·rw[if_neg (by omega),if_neg (by omega),if_neg (by omega),if_neg (by omega)]
  have:=e5 (j-19) (by omega)
  rwa [show 19+(j-19)=j by omega]at this
theorem open_steps6 {fuel:Nat} {a:Option Addr} {len cap:Nat} {x:DataW H×List MemPlace}
  (h:DataW.trod enc Tryz.prog w base spare held fuel 53 [.slice a len cap] = some x) (hsp:∀b,spare b=true) :
  len≤maxLen∧len≤cap∧∃S,Steps6 w a len S:=by
 rcases Go.Deep.open_slice Tryz.underlying53 h with ⟨hcs,_⟩ | ⟨ad,l,c,m,n,D,Pl,hcs,_,hl,hm,hmm,_,hf⟩
 ·simp at hcs
  obtain⟨rfl,rfl,rfl⟩:=hcs
  exact⟨by unfold maxLen;omega,Nat.le_refl _,fun _=>⟨0,0,none,0,0,fun _=>0,fun _=>0,fun _=>0⟩,⟨fun h=>absurd rfl h,fun k hk=>by omega⟩⟩
 ·simp at hcs
  obtain⟨rfl,rfl,rfl⟩:=hcs
  rw[if_pos (hsp _)]at hmm
  subst hmm
  have hc35:Tryz.prog.cellsOf 57 = 35:=by kernel_rfl
  rw[hc35]at hf
  have h0:∀i,∃s:St6,i < len→(∀j,j < 35→w.cell? ((ad.add (i*35)).add j)=some (s.cell j))∧St6Ok w s:=fun i=>by
   by_cases hi:i < len
   ·obtain⟨cs',h1,h2⟩:=hf i (by omega)
    obtain⟨s,hs,hok⟩:=open_step6 h2 hsp
    refine⟨s,fun _=>⟨fun j hj=>?_,hok⟩⟩
    obtain⟨_,hlen,hcell⟩:=World.cells?_some h1
    rw[hcell j hj,hs j hj]
   ·exact⟨⟨0,0,none,0,0,fun _=>0,fun _=>0,fun _=>0⟩,fun h=>absurd h hi⟩
  obtain⟨S,hS⟩:=Classical.axiomOfChoice h0
  refine⟨by omega,hl,S,⟨fun hn=>?_,fun k hk=>(hS k hk).2⟩⟩
  obtain⟨b,off,spot⟩:=ad
  have c0:=(hS 0 (by omega)).1 0 (by decide)
  have hspot:spot=none:=by simpa[Addr.add]using World.cell?_spot c0
  subst hspot
  have hadd:∀o j,(⟨b,o,none⟩:Addr).add j=⟨b,o+j,none⟩:=fun o j=>by unfold Addr.add;split<;>simp_all
  refine⟨b,off,rfl,?_,fun k hk j hj=>?_⟩
  ·rw[hadd,hadd]at c0
   exact World.block_lt_of_cell? w _ c0
  ·have:=(hS k hk).1 j hj
   rw[hadd,hadd]at this
   exact this
end
def few6N (S:Nat→St6):Nat→Int
 | 0=>0
 | k+1=>wrap64 (few6N S k+(S k).n)
def few6B (m:Nat) (S:Nat→St6):Bool:=decide (m≤40) && decide (few6N S (min m 41)≤9300)
theorem few6N_range (S:Nat→St6):∀k,-9223372036854775808≤few6N S k∧few6N S k≤9223372036854775807
 | 0=>by unfold few6N;omega
 | k+1=>by unfold few6N wrap64;omega
set_option maxRecDepth 100000 in
set_option maxHeartbeats 1600000 in
theorem few46_ok (A:Option Addr) (m c:Nat) (S:Nat→St6) (w:World) (h:Steps6 w A m S) (hm:m≤maxLen) :
  Calls Tryz.prog 20 #[.slice A m c] w fun e w'=>e=.returned (.bool (few6B m S))∧Below w.heap.size w w':=by
 have H:=zh h
 unfold maxLen at hm
 clear h
 go_enter Tryz.func20,Tryz.ntmps20
 go_wp2
 go_loopw [3,4] (fun v5 v6 wr=>∃k:Nat,k≤m∧k≤41∧v6=.int .i64 k∧v5=.int .i64 (few6N S k)∧Below w.heap.size w wr) (fun _ v6 _=>m-(intOf v6).toNat)
 case atStart=>exact⟨0,by omega,by omega,rfl,rfl,Below.refl _ _⟩
 case round=>
  obtain⟨k,hk,hk2,rfl,rfl,hb⟩:=hrel
  have HB:=zh hb
  clear hb
  have k0:(0:Int)≤(k:Int):=by omega
  have k9:(k:Int)≤41:=by omega
  have hr:=few6N_range S k
  have HN:Hid (few6N S (k+1)=wrap64 (few6N S k+(S k).n)):=zh rfl
  by_cases hgo:k < m∧k≤40
  ·have d1:decide ((k:Int) < (m:Int))=true:=decide_eq_true (by omega)
   have d2:decide ((k:Int)≤40)=true:=decide_eq_true (by omega)
   have k1:(k:Int) < (m:Int):=by omega
   obtain⟨lb,lo,hA,hbl,hc⟩:=(H.out.below HB.out).at_ (by omega)
   have c3:wr.cell? ⟨lb,lo+k*35+2,none⟩=some (.slice (S k).A (S k).n (S k).c):=hc k hgo.1 2 (by decide)
   subst hA
   clear hc
   go_wp2
   go_roundw
   case rel=>exact⟨k+1,by omega,by omega,by go_num,by rw[HN.out],HB.out⟩
   case measure=>simp[intOf];omega
  ·have hx:k=min m 41:=by omega
   have HF:Hid (few6B m S=(decide (m≤40) && decide (few6N S k≤9300))):=zh (by unfold few6B;rw[←hx])
   clear hx
   by_cases hm2:m≤40
   ·have d1:decide ((k:Int) < (m:Int))=false:=decide_eq_false (by omega)
    have d3:decide ((m:Int)≤40)=true:=decide_eq_true (by omega)
    rw[decide_eq_true hm2,Bool.true_and]at HF
    go_wp2
    go_ret
    exact⟨ret_bool (by rw[HF.out]),HB.out⟩
   ·have d3:decide ((m:Int)≤40)=false:=decide_eq_false (by omega)
    have hkm:k=41:=by omega
    have d2:decide ((k:Int)≤40)=false:=decide_eq_false (by omega)
    clear hkm
    rw[decide_eq_false hm2,Bool.false_and]at HF
    rcases Nat.lt_or_ge k m with hc | hc
    ·have d1:decide ((k:Int) < (m:Int))=true:=decide_eq_true (by omega)
     go_wp2
     go_ret
     exact⟨ret_bool (by rw[HF.out]),HB.out⟩
    ·have d1:decide ((k:Int) < (m:Int))=false:=decide_eq_false (by omega)
     go_wp2
     go_ret
     exact⟨ret_bool (by rw[HF.out]),HB.out⟩
end Go.Proofs.YtnadmdadcpemnaaGreat
namespace Go.Proofs.YtnadmdadcpemnaaGreat
open Go.RowKit
set_option linter.unusedVariables false
set_option linter.unusedSimpArgs false
attribute [local go_sem ↓] Go.wp_at_zero Go.wp_at_succ
structure R6 where
 out:List SV
 err:Int
 s:RS
 U:List (Nat→Int)
def RS.call6 (s:RS) (U:List (Nat→Int)) (x:St6):R6:=
 if x.kind=1 then ⟨(s.receive x.now x.n (nf x.z)).1,(s.receive x.now x.n (nf x.z)).2.1,(s.receive x.now x.n (nf x.z)).2.2,U⟩
 else if x.kind=2 then ⟨(s.tick x.now).1,(s.tick x.now).2.1,(s.tick x.now).2.2,U⟩
 else if x.kind=3 then (if hasKey x.key U=true then ⟨[],461,s,U⟩ else ⟨[],0,s.rekeyed x.key x.code,U++[x.key]⟩)
 else ⟨[],0,s,U⟩
theorem timer_used (s:RS):s.timer.used=s.used:=by
 unfold RS.timer RS.start RS.stop
 (repeat' split)<;>rfl
theorem expire_used (s:RS):s.expire.2.used=s.used:=by
 unfold RS.expire
 split
 ·rfl
 ·exact timer_used _
theorem take_keep (s:RS) (n:Nat) (z:Nat→Nat):(s.take n z).2.2.used=s.used∧(s.take n z).2.2.dup≤s.dup+1∧(s.take n z).2.2.L.length≤s.L.length+1:=by
 have hi:∀(x:SV) (l:List SV),(insV x l).length=l.length+1:=fun x l=>by
  induction l with
  | nil=>rfl
  | cons y r ih=>
   unfold insV
   split
   ·simp
   ·simp[ih]
 have hs:s.used=s.used∧s.dup≤s.dup+1∧s.L.length≤s.L.length+1:=⟨rfl,by omega,by omega⟩
 unfold RS.take
 split
 ·exact hs
 split
 ·exact hs
 split
 ·exact hs
 split
 ·exact hs
 split
 ·exact hs
 split
 ·exact⟨rfl,Int.le_refl _,Nat.le_succ _⟩
 split
 ·exact hs
 split
 ·exact hs
 ·exact⟨rfl,by show s.dup≤s.dup+1;omega,by show(insV _ s.L).length≤_;rw[hi];exact Nat.le_refl _⟩
theorem recv_keep (s:RS) (t:Int) (n:Nat) (z:Nat→Nat):(s.receive t n z).2.2.C=s.C∧(s.receive t n z).2.2.used=s.used∧(s.receive t n z).2.2.dup≤s.dup+1∧(s.receive t n z).2.2.L.length≤s.L.length+1:=by
 unfold RS.receive
 split
 ·exact⟨rfl,rfl,by show s.dup≤s.dup+1;omega,by show s.L.length≤s.L.length+1;omega⟩
 ·obtain⟨a1,a2,a3⟩:=expire_keeps (s.at_ t)
  have a4:=expire_used (s.at_ t)
  have b1:=take_C (s.at_ t).expire.2 n z
  obtain⟨b2,b3,b4⟩:=take_keep (s.at_ t).expire.2 n z
  have e1:(s.at_ t).C=s.C∧(s.at_ t).used=s.used∧(s.at_ t).dup=s.dup∧(s.at_ t).L=s.L:=⟨rfl,rfl,rfl,rfl⟩
  rw[e1.1]at a1
  rw[e1.2.2.1]at a2
  rw[e1.2.2.2]at a3
  rw[e1.2.1]at a4
  simp only
  split
  ·obtain⟨c1,c2,c3,_⟩:=timer_keeps ((s.at_ t).expire.2.take n z).2.2.deliver_.2
   have c4:=timer_used ((s.at_ t).expire.2.take n z).2.2.deliver_.2
   have c5:=fromL_len ((s.at_ t).expire.2.take n z).2.2.L ((s.at_ t).expire.2.take n z).2.2.deliver
   refine⟨c1.trans (b1.trans a1),c4.trans (b2.trans a4),?_,?_⟩
   ·show((s.at_ t).expire.2.take n z).2.2.deliver_.2.timer.dup≤_
    rw[c2]
    show((s.at_ t).expire.2.take n z).2.2.dup≤_
    rw[←a2];exact b3
   ·show((s.at_ t).expire.2.take n z).2.2.deliver_.2.timer.L.length≤_
    rw[c3]
    show(fromL ((s.at_ t).expire.2.take n z).2.2.L ((s.at_ t).expire.2.take n z).2.2.deliver).2.1.length≤_
    omega
  ·exact⟨b1.trans a1,b2.trans a4,by rw[←a2];exact b3,Nat.le_trans b4 (by omega)⟩
theorem tick_keep (s:RS) (t:Int):(s.tick t).2.2.C=s.C∧(s.tick t).2.2.used=s.used∧(s.tick t).2.2.dup=s.dup∧(s.tick t).2.2.L.length≤s.L.length:=by
 unfold RS.tick
 split
 ·exact⟨rfl,rfl,rfl,Nat.le_refl _⟩
 ·obtain⟨a1,a2,a3⟩:=expire_keeps (s.at_ t)
  have a4:=expire_used (s.at_ t)
  refine⟨a1,a4,a2,?_⟩
  have:(s.at_ t).L=s.L:=rfl
  rw[this]at a3
  show(s.at_ t).expire.2.L.length≤_
  omega
structure RI (k:Nat) (s:RS) (U:List (Nat→Int)):Prop where
 ok:s.C.Ok
 val:s.C.Valid
 cm:s.C.cm=false
 used:s.used=U.map kArr
 few:s.L.length≤k
 dup:s.dup≤k
theorem RI.fine {k:Nat} {s:RS} {U:List (Nat→Int)} (h:RI k s U) (hk:k≤250):RFine s:=⟨h.ok,h.val,h.cm,by have:=h.few;omega,by have:=h.dup;omega⟩
theorem RI.more {k k':Nat} {s:RS} {U:List (Nat→Int)} (h:RI k s U) (hk:k≤k'):RI k' s U:=⟨h.ok,h.val,h.cm,h.used,by have:=h.few;omega,by have:=h.dup;omega⟩
theorem RI.call {k:Nat} {s:RS} {U:List (Nat→Int)} (h:RI k s U) {w:World} {x:St6} (hx:St6Ok w x):RI (k+1) (s.call6 U x).s (s.call6 U x).U:=by
 have hf:=h.few
 have hd:=h.dup
 unfold RS.call6
 split
 ·obtain⟨a1,a2,a3,a4⟩:=recv_keep s x.now x.n (nf x.z)
  exact⟨by show(s.receive x.now x.n (nf x.z)).2.2.C.Ok;rw[a1];exact h.ok,by show(s.receive x.now x.n (nf x.z)).2.2.C.Valid;rw[a1];exact h.val,by show(s.receive x.now x.n (nf x.z)).2.2.C.cm=false;rw[a1];exact h.cm,a2.trans h.used,by show(s.receive x.now x.n (nf x.z)).2.2.L.length≤_;omega,by show(s.receive x.now x.n (nf x.z)).2.2.dup≤_;omega⟩
 split
 ·obtain⟨a1,a2,a3,a4⟩:=tick_keep s x.now
  exact⟨by show(s.tick x.now).2.2.C.Ok;rw[a1];exact h.ok,by show(s.tick x.now).2.2.C.Valid;rw[a1];exact h.val,by show(s.tick x.now).2.2.C.cm=false;rw[a1];exact h.cm,a2.trans h.used,by show(s.tick x.now).2.2.L.length≤_;omega,by show(s.tick x.now).2.2.dup≤_;omega⟩
 split
 ·split
  ·exact h.more (Nat.le_succ _)
  ·exact⟨⟨fun j hj=>hx.key j hj,fun j hj=>hx.code j hj⟩,h.val,h.cm,by show s.used++[kArr x.key] = (U++[x.key]).map kArr;rw[h.used,List.map_append];rfl,by show s.L.length≤_;omega,by show s.dup≤_;omega⟩
 ·exact h.more (Nat.le_succ _)
def CallO6 (g:Nat) (r:R6) (W R:Nat→Prop) (sb ub eb:Nat) (w:World) (e:Ending) (w':World):Prop:=
 ∃R' l' A c lo,e=.returned (.tuple #[.slice A lo.length c,.int .i64 r.err])∧OutM w' w.heap.size A c lo∧lo.map (·.v)=r.out∧(∀x,x∈lo→Pkt w' R' x.A x.v.n x.c x.v.z)∧RxM w' g r.s W R' sb l' ub eb∧(∀k,R' k→R k∨w.heap.size≤k)∧(∀k,R k→R' k)∧KeepF W w w'
theorem infoSt6:(Tryz.prog.info? 57).map (·.size)=some 35:=by kernel_rfl
set_option maxRecDepth 100000 in
set_option maxHeartbeats 6400000 in
theorem call6_ok (g:Nat) (s:RS) (U:List (Nat→Int)) (W R:Nat→Prop) (sb:Nat) (l:List SE) (ub eb:Nat) (w:World) (h:RxM w g s W R sb l ub eb) (k:Nat) (hi:RI k s U) (hk:k≤250) (x:St6) (hx:St6Ok w x) (hA:∀a,x.A=some a→x.n ≠ 0→¬W a.block) (XC:Array Value) (hXs:XC.size=35) (hX:∀j,j < 35→XC[j]? = some (x.cell j)) :
  Calls Tryz.prog 21 #[.pointer (some ⟨g,0,none⟩),.agg XC] w (CallO6 g (s.call6 U x) W R sb ub eb w):=by
 have HT:=zh h
 have HI:=zh hi
 have HF:=zh (hi.fine hk)
 have HX:=zh hx
 have HA:=zh hA
 have HXC:=zh hX
 have hl:l.length=s.L.length:=by rw[←h.lv,List.length_map]
 have HL:=zh hl
 have HUK:=zh Tryz.underlying23
 have HSK1:=zh (k_size x.key)
 have HSK2:=zh (k_size x.code)
 obtain⟨r,hr⟩:∃r,r=s.call6 U x:=⟨_,rfl⟩
 have HR:=zh hr
 rw[←hr]
 obtain⟨kd,hkd⟩:∃k,k=x.kind:=⟨_,rfl⟩
 obtain⟨nw,hnw⟩:∃k,k=x.now:=⟨_,rfl⟩
 obtain⟨A,hA2⟩:∃k,k=x.A:=⟨_,rfl⟩
 obtain⟨n,hn⟩:∃k,k=x.n:=⟨_,rfl⟩
 obtain⟨c,hc⟩:∃k,k=x.c:=⟨_,rfl⟩
 have HKD:=zh hkd
 have HE0:=zh (show x.cell 0=.int .i64 kd∧x.cell 1=.int .i64 nw∧x.cell 2=.slice A n c from ⟨by rw[hkd];rfl,by rw[hnw];rfl,by rw[hA2,hn,hc];rfl⟩)
 have HE1:=zh (show(∀j,j < 16→x.cell (3+j)=.int .u8 (x.key j))∧∀j,j < 16→x.cell (19+j)=.int .u8 (x.code j)from ⟨fun j hj=>by
  unfold St6.cell
  rw[if_neg (by omega),if_neg (by omega),if_neg (by omega),if_pos (by omega),show 3+j-3=j by omega],fun j hj=>by
  unfold St6.cell
  rw[if_neg (by omega),if_neg (by omega),if_neg (by omega),if_neg (by omega),show 19+j-19=j by omega]⟩)
 obtain⟨xb,hxb⟩:∃xb,xb=w.heap.size:=⟨_,rfl⟩
 have HRC:=zh (fun V (hb:Below w.heap.size w V)=>receive_ok g s W R sb l ub eb V (h.below hb) HF.out.ok HF.out.cm ⟨HF.out.val.2.2.2.2.2.1,HF.out.val.2.2.2.2.2.2⟩ (by have:=HF.out.few;omega) HF.out.dup x.now x.A x.n x.c (nf x.z) hx.mx hx.cap (fun j hj=>nf_lt hx.byte hj) (fun hn0=>by
  obtain⟨b,o,e1,e2,e3⟩:=(hx.row.next hb) hn0
  exact⟨b,o,e1,e2,fun j hj=>by rw[e3 j hj];show _=some (Value.int .u8 ((nf x.z j:Nat):Int));rw[nf_cast hx.byte hj]⟩) hA (dataAll_any g s.C W R sb ub eb x.A x.n x.c (nf x.z) HF.out.ok HF.out.val hx.cap (fun j hj=>nf_lt hx.byte hj)))
 have HTC:=zh (fun V (hb:Below w.heap.size w V)=>tick_ok g s W R sb l ub eb V (h.below hb) ⟨HF.out.val.2.2.2.2.2.1,HF.out.val.2.2.2.2.2.2⟩ (by have:=HF.out.few;omega) x.now)
 have HKU:=zh (fun V (hb:Below w.heap.size w V) (hu:hasKey x.key U=true)=>rrekey_used g s W R sb l ub eb V (h.below hb) U hi.used x.key x.code hu)
 have HKN:=zh (fun V (hb:Below w.heap.size w V) (hu:hasKey x.key U=false)=>rrekey_new g s W R sb l ub eb V (h.below hb) U hi.used hi.cm x.key x.code hu)
 rw[←hnw,←hA2,←hn,←hc]at HRC
 rw[←hnw]at HTC
 obtain⟨KF,hKF⟩:∃KF,KF=kArr x.key:=⟨_,rfl⟩
 obtain⟨KC,hKC⟩:∃KC,KC=kArr x.code:=⟨_,rfl⟩
 have HKF:=zh hKF
 have HKC:=zh hKC
 rw[←hKF]at HSK1
 rw[←hKC]at HSK2
 rw[←hKF,←hKC]at HKU HKN
 have HNW:=zh (And.intro hnw (And.intro hA2 (And.intro hn hc)))
 clear h hi hx hA hl hX hkd hnw hA2 hn hc hr hKF hKC
 go_enter Tryz.func21,Tryz.ntmps21
 go_upto_region 1 with (fail)
 refine wp_let (fun V=>Blk V xb 57 XC∧Below w.heap.size w V) ⟨by rw[hxb];exact Blk.new _ _ _,(Below.refl _ w).alloc (Nat.le_refl _) _⟩ ?_
 rintro V ⟨b1,b2⟩
 rw[←hxb]
 have HB:=zh b1
 have HBW:=zh b2
 have HRG1:=zh (show V.rangeAt xb 3 KF.toList from fun j y hy=>by
  have hj:j < 16:=by have:=(List.getElem?_eq_some_iff.1 hy).1;rw[HKF.out]at this;exact this
  rw[b1.cell,HXC.out _ (by omega),HE1.out.1 j hj,←hy,Array.getElem?_toList,HKF.out,kArr_at _ j hj])
 have HRG2:=zh (show V.rangeAt xb 19 KC.toList from fun j y hy=>by
  have hj:j < 16:=by have:=(List.getElem?_eq_some_iff.1 hy).1;rw[HKC.out]at this;exact this
  rw[b1.cell,HXC.out _ (by omega),HE1.out.2 j hj,←hy,Array.getElem?_toList,HKC.out,kArr_at _ j hj])
 have x0:V.cell? ⟨xb,0,none⟩=some (.int .i64 kd):=(b1.cell 0).trans ((HXC.out 0 (by decide)).trans (by rw[HE0.out.1]))
 have x1:V.cell? ⟨xb,1,none⟩=some (.int .i64 nw):=(b1.cell 1).trans ((HXC.out 1 (by decide)).trans (by rw[HE0.out.2.1]))
 have x2:V.cell? ⟨xb,2,none⟩=some (.slice A n c):=(b1.cell 2).trans ((HXC.out 2 (by decide)).trans (by rw[HE0.out.2.2]))
 have hkb:∀(V':World),KeepF W V V'→KeepF W w V':=fun V' hk=>(KeepF.of_below (F:=W) HBW.out).trans hk (fun _ _ h=>h)
 have HKB:=zh hkb
 have hsz:=b2.size
 have HSZ:=zh hsz
 clear b1 b2 hxb hkb hsz hXs
 by_cases q1:kd=1
 ·subst q1
  have hrr:r=⟨(s.receive x.now x.n (nf x.z)).1,(s.receive x.now x.n (nf x.z)).2.1,(s.receive x.now x.n (nf x.z)).2.2,U⟩:=by rw[HR.out];unfold RS.call6;rw[if_pos HKD.out.symm]
  have HRR:=zh hrr
  clear hrr
  go_wp2_with (go_at_call 11;refine(HRC.out _ HBW.out).mono ?_;rintro e w2 ⟨R',l',A5,c5,lo5,rfl,hO,hm,hp,hT,hR1,hR2,hK⟩;have HO:=zh (And.intro hO (And.intro hm (And.intro hp (And.intro hT (And.intro hR1 (And.intro hR2 hK))))));clear hO hm hp hT hR1 hR2 hK)
  go_ret2
  obtain⟨hO,hm,hp,hT,hR1,hR2,hK⟩:=HO.out
  have hs:=HSZ.out
  refine⟨R',l',A5,c5,lo5,?_,⟨hO.1,fun a ha=>Nat.le_trans hs (hO.2 a ha)⟩,?_,hp,?_,fun k hk=>(hR1 k hk).imp id (fun h=>Nat.le_trans hs h),hR2,HKB.out _ hK⟩
  ·rw[HRR.out,HNW.out.1,HNW.out.2.2.1];rfl
  ·rw[hm,HRR.out,HNW.out.1,HNW.out.2.2.1]
  ·rw[HRR.out]
   rw[HNW.out.1,HNW.out.2.2.1]at hT
   exact hT
 have t1:(kd == 1)=false:=by simpa using q1
 by_cases q2:kd=2
 ·subst q2
  have hrr:r=⟨(s.tick x.now).1,(s.tick x.now).2.1,(s.tick x.now).2.2,U⟩:=by rw[HR.out];unfold RS.call6;rw[if_neg (by rw[←HKD.out];decide),if_pos HKD.out.symm]
  have HRR:=zh hrr
  clear hrr q1 t1
  go_wp2_with (go_at_call 13;refine(HTC.out _ HBW.out).mono ?_;rintro e w2 ⟨l',A5,c5,lo5,rfl,hO,hm,hp,hT,hK⟩;have HO:=zh (And.intro hO (And.intro hm (And.intro hp (And.intro hT hK))));clear hO hm hp hT hK)
  go_ret2
  obtain⟨hO,hm,hp,hT,hK⟩:=HO.out
  have hs:=HSZ.out
  refine⟨R,l',A5,c5,lo5,?_,⟨hO.1,fun a ha=>Nat.le_trans hs (hO.2 a ha)⟩,?_,hp,?_,fun k hk=>.inl hk,fun k hk=>hk,HKB.out _ hK⟩
  ·rw[HRR.out,HNW.out.1];rfl
  ·rw[hm,HRR.out,HNW.out.1]
  ·rw[HRR.out]
   rw[HNW.out.1]at hT
   exact hT
 have t2:(kd == 2)=false:=by simpa using q2
 by_cases q3:kd=3
 ·subst q3
  clear q1 q2 t1 t2
  cases hu:hasKey x.key U
  ·have hrr:r=⟨[],0,s.rekeyed x.key x.code,U++[x.key]⟩:=by rw[HR.out];unfold RS.call6;rw[if_neg (by rw[←HKD.out];decide),if_neg (by rw[←HKD.out];decide),if_pos HKD.out.symm,if_neg (by rw[hu];decide)]
   have HRR:=zh hrr
   have HU:=zh hu
   clear hrr hu
   go_wp2_with (first
    | (refine wpList_load_mid rfl _ _ rfl xb 3 rfl KF.toList _ HRG1.out HUK.out rfl HSK1.out ?_)
    | (refine wpList_load_mid rfl _ _ rfl xb 19 rfl KC.toList _ HRG2.out HUK.out rfl HSK2.out ?_)
    | (go_at_call 46;refine(HKN.out _ HBW.out HU.out).mono ?_;rintro e w2 ⟨rfl,hT,hK⟩;have HO:=zh (And.intro hT hK);clear hT hK))
   go_ret2
   refine⟨R,l,none,0,[],by rw[HRR.out];rfl,⟨SL.nil _ _ _,fun a ha=>(by cases ha)⟩,by rw[HRR.out];rfl,fun x hx=>(by cases hx),by rw[HRR.out];exact HO.out.1,fun k hk=>.inl hk,fun k hk=>hk,HKB.out _ HO.out.2⟩
  ·have hrr:r=⟨[],461,s,U⟩:=by rw[HR.out];unfold RS.call6;rw[if_neg (by rw[←HKD.out];decide),if_neg (by rw[←HKD.out];decide),if_pos HKD.out.symm,if_pos hu]
   have HRR:=zh hrr
   have HU:=zh hu
   clear hrr hu
   go_wp2_with (first
    | (refine wpList_load_mid rfl _ _ rfl xb 3 rfl KF.toList _ HRG1.out HUK.out rfl HSK1.out ?_)
    | (refine wpList_load_mid rfl _ _ rfl xb 19 rfl KC.toList _ HRG2.out HUK.out rfl HSK2.out ?_)
    | (go_at_call 46;refine(HKU.out _ HBW.out HU.out).mono ?_;rintro e w2 ⟨rfl,hB⟩;have HO:=zh hB;clear hB))
   go_ret2
   have hb2:=HBW.out.trans (HO.out.mono HBW.out.size)
   refine⟨R,l,none,0,[],by rw[HRR.out];rfl,⟨SL.nil _ _ _,fun a ha=>(by cases ha)⟩,by rw[HRR.out];rfl,fun x hx=>(by cases hx),by rw[HRR.out];exact HT.out.below hb2,fun k hk=>.inl hk,fun k hk=>hk,KeepF.of_below hb2⟩
 have t3:(kd == 3)=false:=by simpa using q3
 have hrr:r=⟨[],0,s,U⟩:=by rw[HR.out];unfold RS.call6;rw[if_neg (by rw[←HKD.out];exact q1),if_neg (by rw[←HKD.out];exact q2),if_neg (by rw[←HKD.out];exact q3)]
 have HRR:=zh hrr
 clear hrr q1 q2 q3
 go_wp2
 go_ret2
 exact⟨R,l,none,0,[],by rw[HRR.out];rfl,⟨SL.nil _ _ _,fun a ha=>(by cases ha)⟩,by rw[HRR.out];rfl,fun x hx=>(by cases hx),by rw[HRR.out];exact HT.out.below HBW.out,fun k hk=>.inl hk,fun k hk=>hk,KeepF.of_below HBW.out⟩
end Go.Proofs.YtnadmdadcpemnaaGreat
namespace Go.Proofs.YtnadmdadcpemnaaGreat
open Go.RowKit
set_option linter.unusedVariables false
set_option linter.unusedSimpArgs false
def O1 (w0 w:World) (R:Nat→Prop) (g:Nat) (W:Nat→Prop) (s:RS):Prop:=∃sb l ub eb,RxM w g s W R sb l ub eb∧∀k,W k→w0.heap.size≤k
def CallR (w0 w:World) (R:Nat→Prop) (g:Nat) (W:Nat→Prop) (r:R6) (P:World→(Nat→Prop)→Prop) (e:Ending) (w':World):Prop:=
 ∃R' A c lo,e=.returned (.tuple #[.slice A lo.length c,.int .i64 r.err])∧OutM w' w.heap.size A c lo∧lo.map (·.v)=r.out∧(∀x,x∈lo→Pkt w' R' x.A x.v.n x.c x.v.z)∧P w' R'∧(∀k,R k→R' k)∧KeepF W w w'
section
variable {w0 w w':World} {R R':Nat→Prop} {g g1 g2 g3:Nat} {W W1 W2 W3:Nat→Prop} {s s1 s2 s3:RS} {U:List (Nat→Int)} {k:Nat}
theorem O1.below (h:O1 w0 w R g W s) (hb:Below w.heap.size w w'):O1 w0 w' R g W s:=by
 obtain⟨sb,l,ub,eb,h1,h2⟩:=h
 exact⟨sb,l,ub,eb,h1.below hb,h2⟩
theorem O1.other (h:O1 w0 w R g W s) (hk:KeepF W1 w w') (hd:∀k,W1 k→¬W k∧¬R k) (h1:∀k,R k→R' k) (h2:∀k,R' k→R k∨w.heap.size≤k) (h3:∀k,R' k→k < w'.heap.size):O1 w0 w' R' g W s:=by
 obtain⟨sb,l,ub,eb,g1,g2⟩:=h
 refine⟨sb,l,ub,eb,(g1.keepF hk hd).moreR h1 (fun k hw hr=>?_) h3,g2⟩
 rcases h2 k hr with h | h
 ·exact g1.dis k hw h
 ·have:=g1.win k hw;omega
theorem O1.call (h:O1 w0 w R g W s) (hlow:Below w0.heap.size w0 w) (hi:RI k s U) (hk:k≤250) (x:St6) (hx:St6Ok w0 x) (XC:Array Value) (hXs:XC.size=35) (hX:∀j,j < 35→XC[j]? = some (x.cell j)) :
  Calls Tryz.prog 21 #[.pointer (some ⟨g,0,none⟩),.agg XC] w (CallR w0 w R g W (s.call6 U x) (fun V R'=>O1 w0 V R' g W (s.call6 U x).s∧Below w0.heap.size w0 V∧(∀k,R' k→R k∨w.heap.size≤k)∧∀k,R' k→k < V.heap.size)):=by
 obtain⟨sb,l,ub,eb,h1,h2⟩:=h
 have hs:=hlow.size
 have hxw:St6Ok w x:=⟨hx.knd,hx.now,hx.mx,hx.cap,hx.byte,hx.key,hx.code,fun hn=>by
  obtain⟨b,o,e,hb,hc⟩:=hx.row hn
  exact⟨b,o,e,Nat.lt_of_lt_of_le hb hs,fun j hj=>(hlow.cell (p:=⟨b,o+j,none⟩) hb).trans (hc j hj)⟩⟩
 refine(call6_ok g s U W R sb l ub eb w h1 k hi hk x hxw (fun a ha hn hw=>?_) XC hXs hX).mono ?_
 ·obtain⟨b,o,e,hb,hc⟩:=hx.row (by omega)
  rw[ha]at e
  cases e
  have:w0.heap.size≤b:=h2 _ hw
  omega
 ·rintro e w' ⟨R',l',A,c,lo,he,hO,hm,hp,hT,hR1,hR2,hK⟩
  exact⟨R',A,c,lo,he,hO,hm,hp,⟨⟨sb,l',ub,eb,hT,h2⟩,KeepF.below hlow hK h2 hs,hR1,hT.rin⟩,hR2,hK⟩
structure Tr (w0 w:World) (R:Nat→Prop) (g1:Nat) (W1:Nat→Prop) (s1:RS) (g2:Nat) (W2:Nat→Prop) (s2:RS) (g3:Nat) (W3:Nat→Prop) (s3:RS):Prop where
 a:O1 w0 w R g1 W1 s1
 b:O1 w0 w R g2 W2 s2
 c:O1 w0 w R g3 W3 s3
 d12:∀k,W1 k→¬W2 k
 d13:∀k,W1 k→¬W3 k
 d23:∀k,W2 k→¬W3 k
 low:Below w0.heap.size w0 w
theorem Tr.rot (h:Tr w0 w R g1 W1 s1 g2 W2 s2 g3 W3 s3):Tr w0 w R g2 W2 s2 g3 W3 s3 g1 W1 s1:=⟨h.b,h.c,h.a,h.d23,fun k h1 h2=>h.d12 k h2 h1,fun k h1 h2=>h.d13 k h2 h1,h.low⟩
theorem Tr.below (h:Tr w0 w R g1 W1 s1 g2 W2 s2 g3 W3 s3) (hb:Below w.heap.size w w'):Tr w0 w' R g1 W1 s1 g2 W2 s2 g3 W3 s3:=⟨h.a.below hb,h.b.below hb,h.c.below hb,h.d12,h.d13,h.d23,h.low.trans (hb.mono h.low.size)⟩
theorem Tr.call (h:Tr w0 w R g1 W1 s1 g2 W2 s2 g3 W3 s3) (hi:RI k s1 U) (hk:k≤250) (x:St6) (hx:St6Ok w0 x) (XC:Array Value) (hXs:XC.size=35) (hX:∀j,j < 35→XC[j]? = some (x.cell j)) :
  Calls Tryz.prog 21 #[.pointer (some ⟨g1,0,none⟩),.agg XC] w (CallR w0 w R g1 W1 (s1.call6 U x) (fun V R'=>Tr w0 V R' g1 W1 (s1.call6 U x).s g2 W2 s2 g3 W3 s3)):=by
 have hd:∀k,W1 k→¬R k:=by
  obtain⟨sb,l,ub,eb,h1,h2⟩:=h.a
  exact fun k hw hr=>h1.dis k hw hr
 refine(h.a.call h.low hi hk x hx XC hXs hX).mono ?_
 rintro e w' ⟨R',A,c,lo,he,hO,hm,hp,⟨ho,hl,hR1,hR3⟩,hR2,hK⟩
 exact⟨R',A,c,lo,he,hO,hm,hp,⟨ho,h.b.other hK (fun k hk=>⟨h.d12 k hk,hd k hk⟩) hR2 hR1 hR3,h.c.other hK (fun k hk=>⟨h.d13 k hk,hd k hk⟩) hR2 hR1 hR3,h.d12,h.d13,h.d23,hl⟩,hR2,hK⟩
theorem O1.export (h:O1 w0 w R g W s) (hf:s.L.length≤250):Calls Tryz.prog 19 #[.pointer (some ⟨g,0,none⟩)] w (SoE s w):=by
 obtain⟨sb,l,ub,eb,h1,h2⟩:=h
 have hl:l.length=s.L.length:=by rw[←h1.lv,List.length_map]
 refine(rexport_ok g s W R sb l ub eb w h1 (sortedOK_small (by omega)) (by omega)).mono ?_
 rintro e w' ⟨A,c,lx,he,hv,hS,hA,hp,hB⟩
 have hll:lx.length=l.length:=by
  have:=congrArg List.length hv
  simpa using this
 rw[hl]at he
 refine⟨A,c,he,by have:=hS.le;omega,?_,hB⟩
 have:=cntL_sl hS hll.symm (fun x hx=>(hp x hx).1)
 rw[hv,h1.lv]at this
 exact this
theorem O1.dups (h:O1 w0 w R g W s):Calls Tryz.prog 17 #[.pointer (some ⟨g,0,none⟩)] w fun e w'=>e=.returned (.int .i64 s.dup)∧w=w':=by
 obtain⟨sb,l,ub,eb,h1,h2⟩:=h
 exact dups_ok g s W R sb l ub eb w h1
def CpyO (w0 w:World) (R:Nat→Prop) (g:Nat) (W:Nat→Prop) (s:RS) (e:Ending) (w':World):Prop:=
 ∃g2 W2,e=.returned (.pointer (some ⟨g2,0,none⟩))∧O1 w0 w' R g2 W2 s∧O1 w0 w' R g W s∧(∀k,W2 k→w.heap.size≤k∧k < w'.heap.size)∧Below w.heap.size w w'
theorem O1.copy (h:O1 w0 w R g W s) (hlow:Below w0.heap.size w0 w) (hcm:s.C.cm=false):Calls Tryz.prog 22 #[.pointer (some ⟨g,0,none⟩)] w (CpyO w0 w R g W s):=by
 obtain⟨sb,l,ub,eb,h1,h2⟩:=h
 have hs:=hlow.size
 refine(rcopy_ok g s W R sb l ub eb w h1 hcm).mono ?_
 rintro e w' ⟨g2,m2,u2,x2,he,hT,e1,e2,e3,e4,hB⟩
 refine⟨g2,_,he,⟨m2,l,u2,x2,hT,fun k hk=>?_⟩,⟨sb,l,ub,eb,h1.below hB,h2⟩,fun k hk=>⟨?_,hT.win k hk⟩,hB⟩
 ·rcases hk with h | h | h | h<;>omega
 ·rcases hk with h | h | h | h<;>omega
end
theorem out_same {V:World} {B B':Nat} {A A':Option Addr} {c c':Nat} {lo lo':List SE} {R R':Nat→Prop} (h:OutM V B A c lo) (h':OutM V B' A' c' lo') (he:lo.map (·.v)=lo'.map (·.v)) (hp:∀x,x∈lo→Pkt V R x.A x.v.n x.c x.v.z) (hp':∀x,x∈lo'→Pkt V R' x.A x.v.n x.c x.v.z):SameB V A A' lo.length:=fun k hk=>by
 have hl:lo.length=lo'.length:=by
  have:=congrArg List.length he
  simpa using this
 have e1:lo[k]? = some lo[k]:=List.getElem?_eq_getElem hk
 have e2:lo'[k]? = some (lo'[k]'(by omega)):=List.getElem?_eq_getElem (by omega)
 obtain⟨b,o,hA,hb⟩:=h.1.some_ (by omega)
 obtain⟨b',o',hA',hb'⟩:=h'.1.some_ (by omega)
 have c1:=h.1.cell hA (j:=k) (by omega)
 have c2:=h'.1.cell hA' (j:=k) (by omega)
 rw[List.getElem?_map,e1]at c1
 rw[List.getElem?_map,e2]at c2
 have hv:lo[k].v=(lo'[k]'(by omega)).v:=by
  have h:=congrArg (fun l=>l[k]?) he
  simp only[List.getElem?_map,e1,e2,Option.map_some]at h
  exact Option.some.inj h
 have p1:=hp lo[k] (List.getElem_mem hk)
 have p2:=hp' (lo'[k]'(by omega)) (List.getElem_mem _)
 refine⟨lo[k].v.n,lo[k].v.z,lo[k].v.z,⟨b,o,lo[k].A,lo[k].c,hA,hb,c1,p1.row⟩,⟨b',o',(lo'[k]'(by omega)).A,(lo'[k]'(by omega)).c,hA',hb',by rw[hv];exact c2,by rw[hv];exact p2.row⟩,fun j hj=>rfl⟩
end Go.Proofs.YtnadmdadcpemnaaGreat
