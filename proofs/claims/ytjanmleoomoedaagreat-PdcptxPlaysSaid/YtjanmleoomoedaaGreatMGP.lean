import Derived.Test.YtjanmleoomoedaaGreatMGI
import Derived.Test.YtjanmleoomoedaaGreatMGC
import Derived.Test.YtjanmleoomoedaaGreatMGK
import Derived.Test.YtjanmleoomoedaaGreatMGJ
import Derived.ProofKit
import Derived.OpenShut
import Derived.ChangeOld
import Derived.Deep.Fields
import Derived.Laws.StructEq
import Derived.ChangeKeysEq
import Derived.Lib.SlBytesConst
import Derived.Lib.SmallJoins
import Derived.Deep.RegionHeld3
namespace Go.Proofs.YtjanmleoomoedaaGreat
open Go.RowKit
set_option linter.unusedVariables false
attribute [local go_sem ↓] Go.wp_at_zero Go.wp_at_succ
private theorem zh {p:Prop} (h:p):Hid p:=h
private theorem tkH {P:Program} {ops:Array Oper} {Q:Exit→Act→World→Prop} {md:Region.Mode} {S:World→Prop} {i:Nat} {oi:Oper} {v:Value} {fuel:Nat} {listed l':Array Bool} {a a':Act} {w:World} (hi:ops[i]? = some oi) (hy:YieldsIf P ops S oi v a) (hS:S w)
  (h:wpAnyH P md ops Q S fuel l' a' w) (hl:listed.setIfInBounds i true=l':=by(try simp only[List.setIfInBounds_toArray,List.set_cons_zero,List.set_cons_succ]);rfl) (ha:a.put oi.dst v=a':=by(try simp only[Act.put,List.setIfInBounds_toArray,List.set_cons_zero,List.set_cons_succ]);rfl) (hs:Region.noSelect ops=true:=by kernel_rfl) (hf:Region.free md ops listed i=true:=by kernel_rfl) (hr:(Region.ready md ops listed).contains i=true:=by kernel_rfl)
  (hQ:∀c a w,Q (.panic c) (a.put oi.dst v) w→Q (.panic c) a w:=by exact fun _ _ _ h=>h):wpAnyH P md ops Q S (fuel+1) listed a w:=by subst hl;subst ha;exact wpAnyH_take hi hs hf hr hQ hy hS h
def CE2 (w:World) (A:Option Addr) (k:Nat) (ct:Int) (n:Nat) (z:Nat→Int):Prop:=
 ∃lb lo PA pc,A=some ⟨lb,lo,none⟩∧lb < w.heap.size∧w.cell? ⟨lb,lo+k*2,none⟩=some (.int .u32 ct)∧w.cell? ⟨lb,lo+k*2+1,none⟩=some (.slice PA n pc)∧Row w w.heap.size PA n (fun j=>.int .u8 (z j))
def BE2 (w:World) (A:Option Addr) (k:Nat) (n:Nat) (z:Nat→Int):Prop:=
 ∃lb lo PA pc,A=some ⟨lb,lo,none⟩∧lb < w.heap.size∧w.cell? ⟨lb,lo+k,none⟩=some (.slice PA n pc)∧Row w w.heap.size PA n (fun j=>.int .u8 (z j))
theorem CE2.below {w w':World} {A:Option Addr} {k:Nat} {ct:Int} {n:Nat} {z:Nat→Int} (h:CE2 w A k ct n z) (hb:Below w.heap.size w w'):CE2 w' A k ct n z:=by
 obtain⟨lb,lo,PA,pc,h1,h2,h3,h4,h5⟩:=h
 exact⟨lb,lo,PA,pc,h1,Nat.lt_of_lt_of_le h2 hb.size,(hb.cell (p:=⟨lb,lo+k*2,none⟩) h2).trans h3,(hb.cell (p:=⟨lb,lo+k*2+1,none⟩) h2).trans h4,h5.next hb⟩
theorem BE2.below {w w':World} {A:Option Addr} {k:Nat} {n:Nat} {z:Nat→Int} (h:BE2 w A k n z) (hb:Below w.heap.size w w'):BE2 w' A k n z:=by
 obtain⟨lb,lo,PA,pc,h1,h2,h3,h5⟩:=h
 exact⟨lb,lo,PA,pc,h1,Nat.lt_of_lt_of_le h2 hb.size,(hb.cell (p:=⟨lb,lo+k,none⟩) h2).trans h3,h5.next hb⟩
def SameC (w:World) (A A':Option Addr) (m:Nat):Prop:=∀k,k < m→∃ct n z z',CE2 w A k ct n z∧CE2 w A' k ct n z'∧∀j,j < n→z j=z' j
def SameB (w:World) (A A':Option Addr) (m:Nat):Prop:=∀k,k < m→∃n z z',BE2 w A k n z∧BE2 w A' k n z'∧∀j,j < n→z j=z' j
theorem SameC.below {w w':World} {A A':Option Addr} {m:Nat} (h:SameC w A A' m) (hb:Below w.heap.size w w'):SameC w' A A' m:=fun k hk=>by
 obtain⟨ct,n,z,z',h1,h2,h3⟩:=h k hk
 exact⟨ct,n,z,z',h1.below hb,h2.below hb,h3⟩
theorem SameB.below {w w':World} {A A':Option Addr} {m:Nat} (h:SameB w A A' m) (hb:Below w.heap.size w w'):SameB w' A A' m:=fun k hk=>by
 obtain⟨n,z,z',h1,h2,h3⟩:=h k hk
 exact⟨n,z,z',h1.below hb,h2.below hb,h3⟩
set_option maxRecDepth 100000 in
set_option maxHeartbeats 1600000 in
theorem samec_true (A A':Option Addr) (m c c':Nat) (w:World) (hm:m≤maxLen) (h:SameC w A A' m) :
  Calls Tryz.prog 52 #[.slice A m c,.slice A' m c'] w fun e w'=>e=.returned (.bool true)∧Below w.heap.size w w':=by
 unfold maxLen at hm
 have HS:=zh h
 have hm':(m:Int)≤9223372036854775807:=by omega
 clear h
 go_enter Tryz.func52,Tryz.ntmps52
 go_wp2
 go_loopw [5] (fun v wr=>∃k:Nat,k≤m∧v=.int .i64 k∧Below w.heap.size w wr) (fun v _=>m-(intOf v).toNat)
 case atStart=>exact⟨0,by omega,rfl,Below.refl _ _⟩
 case round=>
  obtain⟨k,hk,rfl,hb⟩:=hrel
  by_cases hlt:k < m
  ·obtain⟨ct,n,z,z',⟨lb,lo,PA,pc,rfl,h2,h3,h4,h5⟩,⟨lb',lo',PA',pc',rfl,k2,k3,k4,k5⟩,he⟩:=(HS.out.below hb) k hlt
   have s1:=fun q=>row_string (P:=Tryz.prog) (w:=wr.drewN q) 46 9 5 Tryz.underlying46 Tryz.underlying5 Tryz.underlying9 (show Row (wr.drewN q) wr.heap.size PA n (fun j=>.int .u8 (z j))from h5) pc
   have s2:=fun q=>row_string (P:=Tryz.prog) (w:=wr.drewN q) 46 9 5 Tryz.underlying46 Tryz.underlying5 Tryz.underlying9 (show Row (wr.drewN q) wr.heap.size PA' n (fun j=>.int .u8 (z' j))from k5) pc'
   rw[←bytesOf_congr he]at s2
   have BB:=zh hb
   have k0:(0:Int)≤(k:Int):=by omega
   have k1:(k:Int) < (m:Int):=by omega
   clear h5 k5 he hb
   go_upto_region 6 with (fail)
   have hg:(ct != ct)=false:=by simp
   go_quiet (fail)
   go_wp2
   go_roundw
   case rel=>exact⟨k+1,by omega,by go_num,below_drewN BB.out _⟩
   case measure=>simp[intOf];omega
  ·obtain rfl:k=m:=by omega
   have BB:=zh hb
   clear hb
   go_wp2
   go_ret
   exact⟨rfl,BB.out⟩
set_option maxRecDepth 100000 in
set_option maxHeartbeats 1600000 in
theorem samel_true (A A':Option Addr) (m c c':Nat) (w:World) (hm:m≤maxLen) (h:SameB w A A' m) :
  Calls Tryz.prog 53 #[.slice A m c,.slice A' m c'] w fun e w'=>e=.returned (.bool true)∧Below w.heap.size w w':=by
 unfold maxLen at hm
 have HS:=zh h
 have hm':(m:Int)≤9223372036854775807:=by omega
 clear h
 go_enter Tryz.func53,Tryz.ntmps53
 go_wp2
 go_loopw [5] (fun v wr=>∃k:Nat,k≤m∧v=.int .i64 k∧Below w.heap.size w wr) (fun v _=>m-(intOf v).toNat)
 case atStart=>exact⟨0,by omega,rfl,Below.refl _ _⟩
 case round=>
  obtain⟨k,hk,rfl,hb⟩:=hrel
  by_cases hlt:k < m
  ·obtain⟨n,z,z',⟨lb,lo,PA,pc,rfl,h2,h3,h5⟩,⟨lb',lo',PA',pc',rfl,k2,k3,k5⟩,he⟩:=(HS.out.below hb) k hlt
   have s1:=fun q=>row_string (P:=Tryz.prog) (w:=wr.drewN q) 46 9 5 Tryz.underlying46 Tryz.underlying5 Tryz.underlying9 (show Row (wr.drewN q) wr.heap.size PA n (fun j=>.int .u8 (z j))from h5) pc
   have s2:=fun q=>row_string (P:=Tryz.prog) (w:=wr.drewN q) 46 9 5 Tryz.underlying46 Tryz.underlying5 Tryz.underlying9 (show Row (wr.drewN q) wr.heap.size PA' n (fun j=>.int .u8 (z' j))from k5) pc'
   rw[←bytesOf_congr he]at s2
   have BB:=zh hb
   have k0:(0:Int)≤(k:Int):=by omega
   have k1:(k:Int) < (m:Int):=by omega
   clear h5 k5 he hb
   go_upto_region 6 with (fail)
   go_quiet (fail)
   go_wp2
   go_roundw
   case rel=>exact⟨k+1,by omega,by go_num,below_drewN BB.out _⟩
   case measure=>simp[intOf];omega
  ·obtain rfl:k=m:=by omega
   have BB:=zh hb
   clear hb
   go_wp2
   go_ret
   exact⟨rfl,BB.out⟩
set_option maxRecDepth 100000 in
set_option maxHeartbeats 1600000 in
theorem samef_true (nx:Int) (us:Bool) (A A' C C':Option Addr) (m c c' mq d d':Nat) (w:World) (hm:m≤maxLen) (hmq:mq≤maxLen) (h:SameC w A A' m) (h2:SameB w C C' mq) :
  Calls Tryz.prog 34 #[.agg #[.int .u32 nx,.bool us,.slice A m c,.slice C mq d],.agg #[.int .u32 nx,.bool us,.slice A' m c',.slice C' mq d']] w fun e w'=>e=.returned (.bool true)∧Below w.heap.size w w':=by
 have HC:=zh (fun(V:World) (hb:Below w.heap.size w V)=>samec_true A A' m c c' V hm (h.below hb))
 have HL:=zh (fun(V:World) (hb:Below w.heap.size w V)=>samel_true C C' mq d d' V hmq (h2.below hb))
 clear h h2 hm hmq
 go_enter Tryz.func34,Tryz.ntmps34
 go_upto_region 1 with (fail)
 refine wp_let (fun V=>Blk V w.heap.size 30 #[.int .u32 nx,.bool us,.slice A m c,.slice C mq d]∧Blk V (w.heap.size+1) 30 #[.int .u32 nx,.bool us,.slice A' m c',.slice C' mq d']∧Below w.heap.size w V) ⟨(Blk.new _ _ _).alloc _,blk_atZ _ _ _ _ (by simp),((Below.refl _ w).alloc (Nat.le_refl _) _).alloc (by simp) _⟩ ?_
 rintro W1 ⟨b1,b2,b3⟩
 obtain⟨fa,hfa⟩:∃fa,fa=w.heap.size:=⟨_,rfl⟩
 have B1:=zh b1
 have B2:=zh b2
 have B3:=zh b3
 have x0:=b1.cell 0
 have x1:=b1.cell 1
 have x2:=b1.cell 2
 have x3:=b1.cell 3
 have y0:=b2.cell 0
 have y1:=b2.cell 1
 have y2:=b2.cell 2
 have y3:=b2.cell 3
 simp at x0 x1 x2 x3 y0 y1 y2 y3
 clear b1 b2 b3 hfa
 go_wp2_with (first
  | (go_at_call 52;refine(HC.out _ B3.out).mono ?_;rintro e w2 ⟨rfl,hb⟩;have B4:=zh (B3.out.trans (hb.mono B3.out.size));have P1:=B1.out.below hb B1.out.lt;have P2:=B2.out.below hb B2.out.lt;have u3:=P1.cell 3;have v3:=P2.cell 3;simp at u3 v3;clear hb P1 P2)
  | (go_at_call 53;refine(HL.out _ B4.out).mono ?_;rintro e w3 ⟨rfl,hb⟩;have B5:=zh (B4.out.trans (hb.mono B4.out.size));clear hb))
 go_ret
 exact⟨rfl,B5.out⟩
end Go.Proofs.YtjanmleoomoedaaGreat
namespace Go.Proofs.YtjanmleoomoedaaGreat
open Go.ChangeShapes Go.WideShapes Go.ChangeAt Go.RowKit
def valInt:Option Value→Int
 | some (.int _ a)=>a
 | _=>0
section
variable {H:Type} {enc:TypeId×Value→H} {w:World} {base:Nat} {spare:Nat→Bool} {held:Bool}
theorem open_b16 {fuel:Nat} {L:List Value} {x:DataW H×List MemPlace} (h:DataW.trod enc Tryz.prog w base spare held fuel 23 L=some x) :
  ∃f:Nat→Int,(∀j,j < 16→L[j]? = some (.int .u8 (f j)))∧∀j,j < 16→0≤f j∧f j < 256:=by
 obtain⟨xs,m,_,_,_,hx,hel⟩:=DataW.trod_array Tryz.underlying23 h
 have c5:Tryz.prog.cellsOf 5 = 1:=by kernel_rfl
 have key:∀j,j < 16→∃a,L[j]? = some (.int .u8 a)∧0≤a∧a < 256:=fun j hj=>by
  have h1:=hel j hj
  rw[c5,Nat.mul_one,List.getElem?_eq_getElem (by omega)]at h1
  obtain⟨a,e,_,hw⟩:=DataW.trod_int Tryz.underlying5 h1
  have h2:=congrArg List.head? e
  simp[List.head?_take]at h2
  have hb:=bounds_u8 hw
  exact⟨a,h2,hb.1,by omega⟩
 refine⟨fun j=>valInt L[j]?,fun j hj=>?_,fun j hj=>?_⟩
 ·obtain⟨a,e,_⟩:=key j hj
  simp only[e,valInt]
 ·obtain⟨a,e,hb⟩:=key j hj
  simp only[e,valInt]
  exact hb
set_option maxRecDepth 100000 in
theorem open_cfg {r:Reach} {b0:Nat} {v:Value} {d:DataW H} {p:List MemPlace}
  (hv:Value.okWide Tryz.prog w r b0 25 v) (h:DataW.Trod enc Tryz.prog w base spare held 25 v d p):∃c:Cfg,v=.agg c.arr∧c.Ok:=by
 obtain⟨cs,rfl,hsz⟩:=okWide_struct Tryz.underlying25 hv
 have hc:Tryz.prog.cellsOf 25 = 39:=by kernel_rfl
 have h9:cs.size=39:=hsz.trans hc
 obtain⟨fuel,hf⟩:=h
 obtain⟨xs,n,_,_,_,hlen,hg⟩:=DataW.trod_struct Tryz.underlying25 hf
 have c3:Tryz.prog.cellsOf 3 = 1:=by kernel_rfl
 have c22:Tryz.prog.cellsOf 22 = 1:=by kernel_rfl
 have c4:Tryz.prog.cellsOf 4 = 1:=by kernel_rfl
 have c16:Tryz.prog.cellsOf 23 = 16:=by kernel_rfl
 have hx9:xs.length=9:=hlen
 have keyi:∀(i o:Nat) (ty:TypeId),Tryz.prog.underlying ty=some (.int .i64)→i < 9→DataW.trod enc Tryz.prog w base spare held n ty (List.take 1 (List.drop o (Value.agg cs).cells.toList))=xs[i]?→∃a,cs[o]? = some (Value.int .i64 a):=by
  intro i o ty hu hi h1
  rw[List.getElem?_eq_getElem (by omega)]at h1
  obtain⟨a,e,_,_⟩:=DataW.trod_int hu h1
  refine⟨a,?_⟩
  have h2:=congrArg List.head? e
  simp[Value.cells,List.head?_take]at h2
  exact h2
 have keyb:∀(i o:Nat),i < 9→DataW.trod enc Tryz.prog w base spare held n 4 (List.take 1 (List.drop o (Value.agg cs).cells.toList))=xs[i]?→∃a,cs[o]? = some (Value.bool a):=by
  intro i o hi h1
  rw[List.getElem?_eq_getElem (by omega)]at h1
  obtain⟨a,e,_⟩:=DataW.trod_bool Tryz.underlying4 h1
  refine⟨a,?_⟩
  have h2:=congrArg List.head? e
  simp[Value.cells,List.head?_take]at h2
  exact h2
 have keya:∀(i o:Nat),i < 9→DataW.trod enc Tryz.prog w base spare held n 23 (List.take 16 (List.drop o (Value.agg cs).cells.toList))=xs[i]?→∃f:Nat→Int,(∀j,j < 16→cs[o+j]? = some (.int .u8 (f j)))∧∀j,j < 16→0≤f j∧f j < 256:=by
  intro i o hi h1
  rw[List.getElem?_eq_getElem (by omega)]at h1
  obtain⟨f,e,hb⟩:=open_b16 h1
  refine⟨f,fun j hj=>?_,hb⟩
  have:=e j hj
  rw[List.getElem?_take,if_pos hj,List.getElem?_drop]at this
  simpa[Value.cells]using this
 obtain⟨a0,e0⟩:=keyi 0 0 3 Tryz.underlying3 (by decide) (by have h1:DataW.trod enc Tryz.prog w base spare held n 3 (List.take (Tryz.prog.cellsOf 3) (List.drop 0 (Value.agg cs).cells.toList))=xs[0]?:=hg 0 _ rfl;rwa [c3]at h1)
 obtain⟨a1,e1⟩:=keyi 1 1 22 Tryz.underlying22 (by decide) (by have h1:DataW.trod enc Tryz.prog w base spare held n 22 (List.take (Tryz.prog.cellsOf 22) (List.drop 1 (Value.agg cs).cells.toList))=xs[1]?:=hg 1 _ rfl;rwa [c22]at h1)
 obtain⟨a2,e2,r2⟩:=keya 2 2 (by decide) (by have h1:DataW.trod enc Tryz.prog w base spare held n 23 (List.take (Tryz.prog.cellsOf 23) (List.drop 2 (Value.agg cs).cells.toList))=xs[2]?:=hg 2 _ rfl;rwa [c16]at h1)
 obtain⟨a3,e3,r3⟩:=keya 3 18 (by decide) (by have h1:DataW.trod enc Tryz.prog w base spare held n 23 (List.take (Tryz.prog.cellsOf 23) (List.drop 18 (Value.agg cs).cells.toList))=xs[3]?:=hg 3 _ rfl;rwa [c16]at h1)
 obtain⟨a4,e4⟩:=keyb 4 34 (by decide) (by have h1:DataW.trod enc Tryz.prog w base spare held n 4 (List.take (Tryz.prog.cellsOf 4) (List.drop 34 (Value.agg cs).cells.toList))=xs[4]?:=hg 4 _ rfl;rwa [c4]at h1)
 obtain⟨a5,e5⟩:=keyb 5 35 (by decide) (by have h1:DataW.trod enc Tryz.prog w base spare held n 4 (List.take (Tryz.prog.cellsOf 4) (List.drop 35 (Value.agg cs).cells.toList))=xs[5]?:=hg 5 _ rfl;rwa [c4]at h1)
 obtain⟨a6,e6⟩:=keyb 6 36 (by decide) (by have h1:DataW.trod enc Tryz.prog w base spare held n 4 (List.take (Tryz.prog.cellsOf 4) (List.drop 36 (Value.agg cs).cells.toList))=xs[6]?:=hg 6 _ rfl;rwa [c4]at h1)
 obtain⟨a7,e7⟩:=keyi 7 37 3 Tryz.underlying3 (by decide) (by have h1:DataW.trod enc Tryz.prog w base spare held n 3 (List.take (Tryz.prog.cellsOf 3) (List.drop 37 (Value.agg cs).cells.toList))=xs[7]?:=hg 7 _ rfl;rwa [c3]at h1)
 obtain⟨a8,e8⟩:=keyi 8 38 3 Tryz.underlying3 (by decide) (by have h1:DataW.trod enc Tryz.prog w base spare held n 3 (List.take (Tryz.prog.cellsOf 3) (List.drop 38 (Value.agg cs).cells.toList))=xs[8]?:=hg 8 _ rfl;rwa [c3]at h1)
 obtain⟨c,hcd⟩:∃c:Cfg,c=⟨a0,a1,a2,a3,a4,a5,a6,a7,a8⟩:=⟨_,rfl⟩
 refine⟨c,?_,by rw[hcd];exact⟨r2,r3⟩⟩
 have:cs=c.arr:=by
  apply Array.ext_getElem?
  intro i
  by_cases hi:i < 39
  ·rw[c.arr_at hi,hcd]
   unfold Cfg.cell
   rcases (by omega:i=0∨i=1∨(2≤i∧i < 18)∨(18≤i∧i < 34)∨i=34∨i=35∨i=36∨i=37∨i=38)with rfl | rfl | h | h | rfl | rfl | rfl | rfl | rfl
   ·exact e0
   ·exact e1
   ·rw[if_neg (by omega),if_neg (by omega),if_pos (by omega)]
    have:=e2 (i-2) (by omega)
    rwa [show 2+(i-2)=i by omega]at this
   ·rw[if_neg (by omega),if_neg (by omega),if_neg (by omega),if_pos (by omega)]
    have:=e3 (i-18) (by omega)
    rwa [show 18+(i-18)=i by omega]at this
   ·exact e4
   ·exact e5
   ·exact e6
   ·exact e7
   ·exact e8
  ·rw[Array.getElem?_eq_none (by omega),Array.getElem?_eq_none (by rw[c.arr_size];omega)]
 rw[this]
end
end Go.Proofs.YtjanmleoomoedaaGreat
namespace Go.Proofs.YtjanmleoomoedaaGreat
open Go.RowKit
set_option linter.unusedVariables false
attribute [local go_sem ↓] Go.wp_at_zero Go.wp_at_succ
set_option maxRecDepth 100000 in
set_option maxHeartbeats 1600000 in
theorem rvalid45_ok (c:Cfg) (w:World):Calls Tryz.prog 9 #[.agg c.arr] w fun e w'=>e=.returned (.bool (decide c.Valid))∧Below w.heap.size w w':=by
 have h0:c.arr[0]? = some (.int .i64 c.b):=c.arr_at (by decide)
 have h1:c.arr[1]? = some (.int .i64 c.d):=c.arr_at (by decide)
 have h2:c.arr[37]? = some (.int .i64 c.ds):=c.arr_at (by decide)
 have h3:c.arr[38]? = some (.int .i64 c.ro):=c.arr_at (by decide)
 have HV:=zh (show c.Valid↔(0≤c.b∧c.b≤31∧(c.d=0∨c.d=1)∧0≤c.ds∧c.ds≤1073741824∧0≤c.ro∧c.ro≤1073741824)from Iff.rfl)
 obtain⟨V,hV⟩:∃V,V=decide c.Valid:=⟨_,rfl⟩
 have HD:=zh (show V=true↔c.Valid from by rw[hV];exact decide_eq_true_iff)
 obtain⟨Z,hZ⟩:∃Z,Z=c.arr:=⟨_,rfl⟩
 rw[←hV]
 rw[←hZ]at h0 h1 h2 h3 ⊢
 obtain⟨b,hb⟩:∃b,b=c.b:=⟨_,rfl⟩
 obtain⟨d,hd⟩:∃d,d=c.d:=⟨_,rfl⟩
 obtain⟨ds,hds⟩:∃ds,ds=c.ds:=⟨_,rfl⟩
 obtain⟨ro,hro⟩:∃ro,ro=c.ro:=⟨_,rfl⟩
 rw[←hb]at h0 HV
 rw[←hd]at h1 HV
 rw[←hds]at h2 HV
 rw[←hro]at h3 HV
 clear hZ hV hb hd hds hro
 go_enter Tryz.func9,Tryz.ntmps9
 go_upto_region 1 with (fail)
 refine wp_let (fun W=>Blk W w.heap.size 25 Z∧Below w.heap.size w W) ⟨Blk.new _ _ _,(Below.refl _ w).alloc (Nat.le_refl _) _⟩ ?_
 rintro W1 ⟨b1,b2⟩
 have x0:=(b1.cell 0).trans h0
 have x1:=(b1.cell 1).trans h1
 have x2:=(b1.cell 37).trans h2
 have x3:=(b1.cell 38).trans h3
 have HB:=zh b2
 clear b1 b2 h0 h1 h2 h3
 have hout:∀r:Bool,(r=true↔(0≤b∧b≤31∧(d=0∨d=1)∧0≤ds∧ds≤1073741824∧0≤ro∧ro≤1073741824))→r=V:=fun r hr=>by
  rw[Bool.eq_iff_iff,hr,HD.out,HV.out]
 have HO:=zh hout
 clear hout
 by_cases c0:0≤b
 rotate_left
 ·go_wp2
  go_ret
  exact⟨ret_bool (HO.out _ ⟨fun h=>(by cases h),fun h=>(by omega)⟩),HB.out⟩
 by_cases c1:b≤31
 rotate_left
 ·go_wp2
  go_ret
  exact⟨ret_bool (HO.out _ ⟨fun h=>(by cases h),fun h=>(by omega)⟩),HB.out⟩
 by_cases c2:d=0∨d=1
 rotate_left
 ·have d0:(d == 0)=false:=by simp;exact fun h=>c2 (.inl h)
  have d1:(d == 1)=false:=by simp;exact fun h=>c2 (.inr h)
  have HC2:=zh c2
  clear c2
  go_wp2
  go_ret
  exact⟨ret_bool (HO.out _ ⟨fun h=>(by cases h),fun h=>(absurd h.2.2.1 HC2.out)⟩),HB.out⟩
 by_cases c3:0≤ds
 rotate_left
 ·rcases c2 with rfl | rfl
  ·go_wp2
   go_ret
   exact⟨ret_bool (HO.out _ ⟨fun h=>(by cases h),fun h=>(by omega)⟩),HB.out⟩
  ·go_wp2
   go_ret
   exact⟨ret_bool (HO.out _ ⟨fun h=>(by cases h),fun h=>(by omega)⟩),HB.out⟩
 by_cases c4:ds≤1073741824
 rotate_left
 ·rcases c2 with rfl | rfl
  ·go_wp2
   go_ret
   exact⟨ret_bool (HO.out _ ⟨fun h=>(by cases h),fun h=>(by omega)⟩),HB.out⟩
  ·go_wp2
   go_ret
   exact⟨ret_bool (HO.out _ ⟨fun h=>(by cases h),fun h=>(by omega)⟩),HB.out⟩
 by_cases c5:0≤ro
 rotate_left
 ·rcases c2 with rfl | rfl
  ·go_wp2
   go_ret
   exact⟨ret_bool (HO.out _ ⟨fun h=>(by cases h),fun h=>(by omega)⟩),HB.out⟩
  ·go_wp2
   go_ret
   exact⟨ret_bool (HO.out _ ⟨fun h=>(by cases h),fun h=>(by omega)⟩),HB.out⟩
 by_cases c6:ro≤1073741824
 ·rcases c2 with rfl | rfl
  ·go_wp2
   go_ret
   exact⟨ret_bool (HO.out _ ⟨fun h=>⟨by omega,by omega,by simp,by omega,by omega,by omega,by omega⟩,fun h=>rfl⟩),HB.out⟩
  ·go_wp2
   go_ret
   exact⟨ret_bool (HO.out _ ⟨fun h=>⟨by omega,by omega,by simp,by omega,by omega,by omega,by omega⟩,fun h=>rfl⟩),HB.out⟩
 ·rcases c2 with rfl | rfl
  ·go_wp2
   go_ret
   exact⟨ret_bool (HO.out _ ⟨fun h=>(by cases h),fun h=>(by omega)⟩),HB.out⟩
  ·go_wp2
   go_ret
   exact⟨ret_bool (HO.out _ ⟨fun h=>(by cases h),fun h=>(by omega)⟩),HB.out⟩
theorem cells5:Tryz.prog.cellsOf 5 = 1:=by kernel_rfl
theorem k_part (f:Nat→Int) (i:Nat) (hi:i < 16) (w:World):(part 5 (kArr f) (i*1)).run Tryz.prog w=.ok (.int .u8 (f i)) w:=by
 obtain⟨q,hq,_,hqs,_⟩:=info_parts Tryz.infoByte
 have h:=kArr_at f i hi
 simp[part,Sem.run_bind,sizeOf,typeInfo,hq,hqs,h]
theorem k_items (f:Nat→Int) (d:Nat):∀(is:List Nat) (_:∀i,i∈is→i < 16) (w:World),(Op.eqItems (d+1) 5 1 (kArr f) (kArr f) is).run Tryz.prog w=.ok true w
 | [],_,w=>by simp[Op.eqItems]
 | i :: is,h,w=>by
  simp only[Op.eqItems,Sem.run_bind,k_part f i (h i (by simp)) w,Result.andThen_ok]
  have hr:=k_items f d is (fun j hj=>h j (by simp[hj])) w
  simp[go_sem,hr]
theorem k_self (f:Nat→Int) (d:Nat) (w:World):(Op.equalIn (d+2) 23 (.agg (kArr f)) (.agg (kArr f))).run Tryz.prog w=.ok true w:=by
 obtain⟨q,hq,_⟩:=info_parts Tryz.infoByte
 rw[run_equalIn_array w (d+1) (kArr f) (kArr f) Tryz.underlying23 hq,cells5,k_items f d (List.range 16) (fun i hi=>by simpa using hi) w]
set_option maxRecDepth 100000 in
set_option maxHeartbeats 4000000 in
theorem cfg_self (c:Cfg) (w:World):(binOp .eql 25 (.agg c.arr) (.agg c.arr)).run Tryz.prog w=.ok (.bool true) w:=by
 have h1:=fun w=>k_self c.key 9997 w
 have h2:=fun w=>k_self c.code 9997 w
 rw[cfgLit_eq]
 unfold cfgLit
 simp only[kArr]at h1 h2
 simp[go_sem,h1,h2]
end Go.Proofs.YtjanmleoomoedaaGreat
namespace Go.Proofs.YtjanmleoomoedaaGreat
open Go.RowKit
set_option linter.unusedVariables false
attribute [local go_sem ↓] Go.wp_at_zero Go.wp_at_succ
def Solo (w0 w:World) (g:Nat) (s:TS):Prop:=∃W R,TxI w g s W R∧(∀k,W k→w0.heap.size≤k)∧Below w0.heap.size w0 w
section
variable {w0 w w':World} {g:Nat} {s:TS}
end
section
variable {nx fi:Int} {z y0 y1:Nat→Int}
end
end Go.Proofs.YtjanmleoomoedaaGreat
namespace Go.Proofs.YtjanmleoomoedaaGreat
open Go.RowKit
set_option linter.unusedVariables false
attribute [local go_sem ↓] Go.wp_at_zero Go.wp_at_succ
end Go.Proofs.YtjanmleoomoedaaGreat
namespace Go.Proofs.YtjanmleoomoedaaGreat
open Go.RowKit
set_option linter.unusedVariables false
attribute [local go_sem ↓] Go.wp_at_zero Go.wp_at_succ
section
variable {w0 w w':World} {g:Nat} {s:TS}
theorem solo_queued (h:Solo w0 w g s):Calls Tryz.prog 35 #[.pointer (some ⟨g,0,none⟩)] w fun e w'=>e=.returned (.int .i64 (s.Q.length:Nat))∧w=w':=by
 obtain⟨W,R,⟨qA,qc,lq,pA,pc,lp,ub,cb,hT⟩,_⟩:=h
 have c1:=hT.cq
 have hl:(s.Q.length:Nat)=lq.length:=by rw[←hT.qv,List.length_map]
 rw[hl]
 obtain⟨n,hn⟩:∃n,n=lq.length:=⟨_,rfl⟩
 rw[←hn]at c1 ⊢
 clear hT hl hn
 go_enter Tryz.func35,Tryz.ntmps35
 go_wp2
 go_ret
 exact⟨rfl,rfl⟩
end
end Go.Proofs.YtjanmleoomoedaaGreat
namespace Go.Proofs.YtjanmleoomoedaaGreat
open Go.RowKit
set_option linter.unusedVariables false
attribute [local go_sem ↓] Go.wp_at_zero Go.wp_at_succ
def exT (T:Nat→Int):Nat→Int
 | 0=>0
 | i+1=>max (exT T i) (T i)
def exQ (T:Nat→Int) (j:Nat):QV:=⟨1,fun _=>(j:Int),exT T (j+1)⟩
def exA (T:Nat→Int) (n:Nat):List QV:=(List.range n).map (exQ T)
def gn (ds N:Int) (q:QV):Bool:=decide (0 < ds) && decide (ds≤N-q.at_)
def exF (ds N:Int) (T:Nat→Int) (n:Nat):List QV:=(exA T n).filter fun q=>!gn ds N q
def kept (ds N:Int) (T:Nat→Int) (i:Nat):Nat:=(exF ds N T i).length
end Go.Proofs.YtjanmleoomoedaaGreat
namespace Go.Proofs.YtjanmleoomoedaaGreat
open Go.RowKit
set_option linter.unusedVariables false
attribute [local go_sem ↓] Go.wp_at_zero Go.wp_at_succ
def SoloN (w0 w:World) (g:Nat) (s:TS) (N:Nat→Prop):Prop:=∃W R,TxI w g s W R∧(∀k,W k→w0.heap.size≤k)∧Below w0.heap.size w0 w∧(∀k,N k→w0.heap.size≤k∧k < w.heap.size∧¬W k∧¬R k)
section
variable {w0 w w':World} {g:Nat} {s:TS} {N N':Nat→Prop}
theorem SoloN.low (h:SoloN w0 w g s N):Below w0.heap.size w0 w:=by
 obtain⟨W,R,h1,h2,h3,h4⟩:=h
 exact h3
theorem SoloN.below (h:SoloN w0 w g s N) (hb:Below w.heap.size w w'):SoloN w0 w' g s N:=by
 obtain⟨W,R,h1,h2,h3,h4⟩:=h
 exact⟨W,R,h1.below hb,h2,h3.trans (hb.mono h3.size),fun k hk=>⟨(h4 k hk).1,Nat.lt_of_lt_of_le (h4 k hk).2.1 hb.size,(h4 k hk).2.2⟩⟩
theorem SoloN.other (h:SoloN w0 w g s N) (hk:KeepF N w w') (hN:∀k,N' k→(N k∨w.heap.size≤k)∧k < w'.heap.size):SoloN w0 w' g s N':=by
 obtain⟨W,R,h1,h2,h3,h4⟩:=h
 have hs:=h3.size
 refine⟨W,R,h1.keepF hk (fun k hn=>(h4 k hn).2.2),h2,KeepF.below h3 hk (fun k hn=>(h4 k hn).1) hs,fun k hn=>?_⟩
 obtain⟨h5 | h5,h6⟩:=hN k hn
 ·exact⟨(h4 k h5).1,h6,(h4 k h5).2.2⟩
 ·exact⟨by omega,h6,fun hw=>by have:=h1.win k hw;omega,fun hr=>by have:=h1.rin k hr;omega⟩
end
def blkOf (A:Option Addr) (k:Nat):Prop:=∃a,A=some a∧k=a.block
end Go.Proofs.YtjanmleoomoedaaGreat
namespace Go.Proofs.YtjanmleoomoedaaGreat
open Go.RowKit
set_option linter.unusedVariables false
attribute [local go_sem ↓] Go.wp_at_zero Go.wp_at_succ
theorem builds_any (g:Nat) (C:Cfg) (hok:C.Ok) (hv:C.Valid) (hcm:C.cm=false):Builds g C:=by
 cases hig:C.ig with
 | false=>exact builds_plain g C hok hv hig hcm
 | true=>
  intro s W R V hC hI ct hct A n c z h1 h9 hr hz
  subst hC
  exact tbuild_ig code_ok g s W R V hI hok hv hig hcm ct hct A n c z h1 h9 hr hz
def Cfg.noC (c:Cfg):Cfg:={ c with cm:=false }
theorem Cfg.noC_arr (c:Cfg):c.arr.setIfInBounds 35 (.bool false)=c.noC.arr:=by
 apply Array.ext_getElem?
 intro j
 rw[Array.getElem?_setIfInBounds,c.arr_size]
 by_cases hj:j < 39
 ·rw[c.noC.arr_at hj]
  by_cases e:35=j
  ·subst e;rw[if_pos rfl,if_pos (by omega)];rfl
  ·rw[if_neg e,c.arr_at hj]
   unfold Cfg.cell Cfg.noC
   by_cases h0:j=0
   ·simp[h0]
   by_cases h1:j=1
   ·simp[h1]
   by_cases h2:j < 18
   ·simp[h0,h1,h2]
   by_cases h3:j < 34
   ·simp[h0,h1,h2,h3]
   by_cases h4:j=34
   ·simp[h4]
   ·simp[h0,h1,h2,h3,h4,show ¬j=35 from fun h=>e h.symm]
 ·rw[if_neg (by omega),Array.getElem?_eq_none (by rw[c.arr_size];omega),Array.getElem?_eq_none (by rw[c.noC.arr_size];omega)]
theorem Cfg.noC_ok {c:Cfg} (h:c.Ok):c.noC.Ok:=⟨h.key,h.code⟩
set_option maxRecDepth 100000 in
set_option maxHeartbeats 1600000 in
theorem plain45_ok (c:Cfg) (w:World):Calls Tryz.prog 4 #[.agg c.arr] w fun e w'=>e=.returned (.agg c.noC.arr)∧Below w.heap.size w w':=by
 have HP:=zh c.noC_arr
 have HS:Hid ((Tryz.prog.info? 25).map (·.size)=some c.noC.arr.size):=zh (by rw[c.noC.arr_size];exact infoPd)
 have HO:=zh c.noC.arr_one
 have HZS:Hid (Cfg.zero.arr.size=c.noC.arr.size):=zh (by rw[Cfg.arr_size,Cfg.arr_size])
 have c35:=c.arr_at (j:=35) (by decide)
 obtain⟨Z,hZ⟩:∃Z,Z=c.arr:=⟨_,rfl⟩
 obtain⟨Y,hY⟩:∃Y,Y=c.noC.arr:=⟨_,rfl⟩
 rw[←hZ]at HP c35 ⊢
 rw[←hY]at HP HS HO HZS ⊢
 have HC35:=zh c35
 have HU:=zh Tryz.underlying25
 clear hZ hY c35
 go_enter Tryz.func4,Tryz.ntmps4
 go_upto_region 1 with (fail)
 obtain⟨g,hg⟩:∃g,g=w.heap.size:=⟨_,rfl⟩
 refine wp_let (fun W=>Blk W g 25 Z∧Blk W (g+1) 25 Cfg.zero.arr∧Below w.heap.size w W) ⟨by rw[hg];exact(Blk.new _ _ _).alloc _,by rw[cf0_lit,hg];exact blk_atZ _ _ _ _ (by simp),((Below.refl _ w).alloc (Nat.le_refl _) _).alloc (by simp) _⟩ ?_
 rintro W1 ⟨b1,b2,b3⟩
 have B1:=zh b1
 have B2:=zh b2
 have B3:=zh b3
 have HG:=zh hg
 rw[←hg]
 have c35:W1.cell? ⟨g,35,none⟩=some (c.cell 35):=(b1.cell 35).trans HC35.out
 have f35:=b1.frozen 35
 clear b1 b2 b3 hg
 go_upto_region 2 with (fail)
 refine wp_let (fun W=>Blk W g 25 Y∧Blk W (g+1) 25 Cfg.zero.arr∧Below w.heap.size w W) ⟨by rw[←HP.out];exact B1.out.set_ 35 _,B2.out.far (p:=⟨g,35,none⟩) (by show ¬g+1=g;omega) _,B3.out.setCell (p:=⟨g,35,none⟩) (by rw[HG.out];exact Nat.le_refl _) _⟩ ?_
 rintro W2 ⟨b1,b2,b3⟩
 have D1:=zh b1
 have D2:=zh b2
 have D3:=zh b3
 clear b1 b2 b3 c35 f35
 go_wp2_with (first
  | (refine wpList_load_row rfl _ _ rfl g rfl 25 Y (0,0) _ D1.out HU.out rfl HS.out ?_)
  | (refine wpList_store_row rfl _ _ _ rfl (g+1) Y rfl rfl 25 _ D2.out HS.out HZS.out HO.out ?_))
 refine bodyPost_ret (v:=.agg Y) (results_cell_row (g:=g+1) (t:=25) (fr:=(0,0)) Tryz.results4 _ _ Y _ rfl (setRow_heap _ _ _ Y 25 (0,0) D2.out) HU.out rfl HS.out) rfl ⟨rfl,?_⟩
 exact belowRow D3.out (by rw[HG.out];omega) _
end Go.Proofs.YtjanmleoomoedaaGreat
namespace Go.Proofs.YtjanmleoomoedaaGreat
open Go.RowKit
def UnB (w:World) (k:Nat):Prop:=∃cur t,w.heap[k]? = some (.cells cur t (0,0))
theorem UnB.lt {w:World} {k:Nat} (h:UnB w k):k < w.heap.size:=by
 obtain⟨cur,t,h⟩:=h
 exact(Array.getElem?_eq_some_iff.1 h).1
theorem UnB.keep {w w':World} {k:Nat} (h:UnB w k) (e:w'.heap[k]? = w.heap[k]?):UnB w' k:=by
 obtain⟨cur,t,h⟩:=h
 exact⟨cur,t,e.trans h⟩
theorem UnB.keepF {F:Nat→Prop} {w w':World} {k:Nat} (h:UnB w k) (hk:KeepF F w w') (hn:¬F k):UnB w' k:=h.keep (hk.block k h.lt hn)
theorem UnB.below {w w':World} {k:Nat} (h:UnB w k) (hb:Below w.heap.size w w'):UnB w' k:=h.keep (hb.block k h.lt)
theorem own_un {w:World} {base n sz:Nat} {e:TypeId} {A:Option Addr} {c:Nat} {xs:List Value} (h:w.ownsRow base e sz (.slice A n c) n xs):∀a,A=some a→UnB w a.block:=fun a ha=>by
 obtain⟨hl,⟨hv,hn⟩ | ⟨g,cap,cur,hv,hg,hh,hc,hm,hs,ht⟩⟩:=h
 ·cases hv;cases ha
 ·cases hv;cases ha
  exact⟨cur,e,hh⟩
theorem clone_un (A:Option Addr) (n c:Nat) (z:Nat→Int) (w:World) (hn:n≤140737488355328) (hr:Row w w.heap.size A n (fun j=>.int .u8 (z j))) :
  Calls Tryz.prog 22 #[.slice A n c] w fun e w'=>∃A2 c2,e=.returned (.slice A2 n c2)∧n≤c2∧Row w' w'.heap.size A2 n (fun j=>.int .u8 (z j))∧Fresh w.heap.size A2∧Below w.heap.size w w'∧∀a,A2=some a→UnB w' a.block:=
 (clone_own A n c z w hn hr).mono fun _ _ ⟨A2,c2,he,hc,ho,hb⟩=>⟨A2,c2,he,hc,(own_map_row ho).2,(own_map_row ho).1,hb,own_un ho⟩
structure FwN (w:World) (B rb:Nat) (nx:Int) (us:Bool) (W R:Nat→Prop) (pA:Option Addr) (pc:Nat) (lp:List PE) (qA:Option Addr) (qc:Nat) (lq:List WE):Prop where
 blk:Blk w rb 30 #[.int .u32 nx,.bool us,.slice pA lp.length pc,.slice qA lq.length qc]
 p:SL w 52 2 pA lp.length pc (lp.flatMap PE.cc)
 q:SL w 46 1 qA lq.length qc (lq.flatMap WE.cc)
 pe:∀e,e∈lp→Pkt w R e.A e.v.n e.c e.v.z
 qe:∀e,e∈lq→Pkt w R e.A e.v.n e.c e.v.z
 wg:W rb
 wq:∀a,qA=some a→W a.block
 wp:∀a,pA=some a→W a.block
 dis:∀k,W k→R k→False
 win:∀k,W k→B≤k∧k < w.heap.size
 rin:∀k,R k→B≤k∧k < w.heap.size∧UnB w k
section
variable {w w1 w':World} {B rb:Nat} {nx:Int} {us:Bool} {W R R' F:Nat→Prop} {qA qA':Option Addr} {qc qc':Nat} {lq lq':List WE} {pA pA':Option Addr} {pc pc':Nat} {lp lp':List PE}
theorem FwN.keepF (h:FwN w B rb nx us W R pA pc lp qA qc lq) (hk:KeepF F w w') (hF:∀k,F k→¬W k∧¬R k):FwN w' B rb nx us W R pA pc lp qA qc lq:=
 ⟨hk.blk h.blk (fun hf=>(hF _ hf).1 h.wg),h.p.keepF hk (fun a e hf=>(hF _ hf).1 (h.wp a e)),h.q.keepF hk (fun a e hf=>(hF _ hf).1 (h.wq a e)),
  fun e he=>(h.pe e he).keep hk (fun k hf=>(hF k hf).2),fun e he=>(h.qe e he).keep hk (fun k hf=>(hF k hf).2),h.wg,h.wq,h.wp,h.dis,
  fun k hk'=>⟨(h.win k hk').1,Nat.lt_of_lt_of_le (h.win k hk').2 hk.size⟩,fun k hk'=>⟨(h.rin k hk').1,Nat.lt_of_lt_of_le (h.rin k hk').2.1 hk.size,(h.rin k hk').2.2.keepF hk (fun hf=>(hF k hf).2 hk')⟩⟩
theorem FwN.below (h:FwN w B rb nx us W R pA pc lp qA qc lq) (hb:Below w.heap.size w w'):FwN w' B rb nx us W R pA pc lp qA qc lq:=
 h.keepF (F:=fun _=>False) (KeepF.of_below hb) (fun _ hf=>hf.elim)
theorem FwN.gq (h:FwN w B rb nx us W R pA pc lp qA qc lq) (a:Addr) (ha:qA=some a):rb ≠ a.block:=by
 obtain⟨cur,hc⟩:=h.q.obj ha
 exact cells_ne h.blk hc (by decide)
theorem FwN.gp (h:FwN w B rb nx us W R pA pc lp qA qc lq) (a:Addr) (ha:pA=some a):rb ≠ a.block:=by
 obtain⟨cur,hc⟩:=h.p.obj ha
 exact cells_ne h.blk hc (by decide)
theorem FwN.qp (h:FwN w B rb nx us W R pA pc lp qA qc lq) (a b:Addr) (ha:qA=some a) (hb:pA=some b):a.block ≠ b.block:=by
 obtain⟨cur,hc⟩:=h.q.obj ha
 obtain⟨cur',hc'⟩:=h.p.obj hb
 exact cells_ne hc hc' (by decide)
theorem FwN.moreR (h:FwN w B rb nx us W R pA pc lp qA qc lq) (hR:∀k,R k→R' k) (hd:∀k,W k→R' k→False) (hr:∀k,R' k→B≤k∧k < w.heap.size∧UnB w k):FwN w B rb nx us W R' pA pc lp qA qc lq:=
 ⟨h.blk,h.p,h.q,fun e he=>(h.pe e he).mono hR,fun e he=>(h.qe e he).mono hR,h.wg,h.wq,h.wp,hd,h.win,hr⟩
theorem FwN.setP (h:FwN w B rb nx us W R pA pc lp qA qc lq) (hk:KeepF (fun k=>∃a,pA=some a∧k=a.block) w w1) (hn:∀a,pA'=some a→(∃a',pA=some a'∧a.block=a'.block)∨w.heap.size≤a.block) (hs:SL w1 52 2 pA' lp'.length pc' (lp'.flatMap PE.cc))
  (he:∀e,e∈lp'→Pkt w1 R e.A e.v.n e.c e.v.z) :
  FwN (w1.setCell ⟨rb,2,none⟩ (.slice pA' lp'.length pc')) B rb nx us (fun k=>W k∨∃a,pA'=some a∧k=a.block) R pA' pc' lp' qA qc lq:=by
 have hg:KeepF (fun k=>k=rb) w1 (w1.setCell ⟨rb,2,none⟩ (.slice pA' lp'.length pc')):=(KeepF.refl (F:=fun k=>k=rb)).setCell (p:=⟨rb,2,none⟩) rfl _
 have hgl:=h.blk.lt
 have hgB:=h.win _ h.wg
 have hg1:Blk w1 rb _ _:=hk.blk h.blk (fun⟨a,ha,e⟩=>h.gp a ha e)
 have hgx:∀a,pA'=some a→¬a.block=rb:=fun a ha e=>by
  rcases hn a ha with ⟨a',ha',e'⟩ | hge
  ·exact h.gp a' ha' (by omega)
  ·omega
 have hs1:∀a,qA=some a→¬∃b,pA=some b∧a.block=b.block:=fun a ha ⟨b,hb,e⟩=>h.qp a b ha hb e
 have hsz:w.heap.size≤w1.heap.size:=hk.size
 have pk:∀{A:Option Addr} {n c:Nat} {z:Nat→Int},Pkt w R A n c z→Pkt w1 R A n c z:=fun hp=>hp.keep hk (fun k ⟨a,ha,e⟩ hr=>h.dis k (by rw[e];exact h.wp a ha) hr)
 have pg:∀{A:Option Addr} {n c:Nat} {z:Nat→Int},Pkt w1 R A n c z→Pkt (w1.setCell ⟨rb,2,none⟩ (.slice pA' lp'.length pc')) R A n c z:=fun hp=>hp.keep hg (fun k e hr=>h.dis k (by rw[e];exact h.wg) hr)
 refine⟨?_,hs.keepF hg hgx,(h.q.keepF hk hs1).keepF hg (fun a e h2=>h.gq a e h2.symm),
  fun e he2=>pg (he e he2),fun e he2=>pg (pk (h.qe e he2)),.inl h.wg,
  fun a e=>.inl (h.wq a e),fun a e=>.inr ⟨a,e,rfl⟩,
  fun k hw hr=>?_,fun k hw=>?_,fun k hr=>⟨(h.rin k hr).1,Nat.lt_of_lt_of_le (Nat.lt_of_lt_of_le (h.rin k hr).2.1 hsz) hg.size,((h.rin k hr).2.2.keepF hk (fun⟨a,ha,e⟩=>h.dis k (by rw[e];first | exact h.wp a ha | exact h.wq a ha) hr)).keepF hg (fun e=>h.dis k (by rw[e];exact h.wg) hr)⟩⟩
 ·exact hg1.set_ 2 (.slice pA' lp'.length pc')
 ·rcases hw with hw | ⟨a,ha,rfl⟩
  ·exact h.dis k hw hr
  ·rcases hn a ha with ⟨a',ha',e'⟩ | hge
   ·exact h.dis _ (by rw[e'];exact h.wp a' ha') hr
   ·have:=(h.rin _ hr).2.1;omega
 ·rcases hw with hw | ⟨a,ha,rfl⟩
  ·exact⟨(h.win k hw).1,Nat.lt_of_lt_of_le (Nat.lt_of_lt_of_le (h.win k hw).2 hsz) hg.size⟩
  ·refine⟨?_,Nat.lt_of_lt_of_le (hs.lt ha) hg.size⟩
   rcases hn a ha with ⟨a',ha',e'⟩ | hge
   ·rw[e'];exact(h.win _ (h.wp a' ha')).1
   ·omega
theorem FwN.setQ (h:FwN w B rb nx us W R pA pc lp qA qc lq) (hk:KeepF (fun k=>∃a,qA=some a∧k=a.block) w w1) (hn:∀a,qA'=some a→(∃a',qA=some a'∧a.block=a'.block)∨w.heap.size≤a.block) (hs:SL w1 46 1 qA' lq'.length qc' (lq'.flatMap WE.cc))
  (he:∀e,e∈lq'→Pkt w1 R e.A e.v.n e.c e.v.z) :
  FwN (w1.setCell ⟨rb,3,none⟩ (.slice qA' lq'.length qc')) B rb nx us (fun k=>W k∨∃a,qA'=some a∧k=a.block) R pA pc lp qA' qc' lq':=by
 have hg:KeepF (fun k=>k=rb) w1 (w1.setCell ⟨rb,3,none⟩ (.slice qA' lq'.length qc')):=(KeepF.refl (F:=fun k=>k=rb)).setCell (p:=⟨rb,3,none⟩) rfl _
 have hgl:=h.blk.lt
 have hgB:=h.win _ h.wg
 have hg1:Blk w1 rb _ _:=hk.blk h.blk (fun⟨a,ha,e⟩=>h.gq a ha e)
 have hgx:∀a,qA'=some a→¬a.block=rb:=fun a ha e=>by
  rcases hn a ha with ⟨a',ha',e'⟩ | hge
  ·exact h.gq a' ha' (by omega)
  ·omega
 have hs1:∀a,pA=some a→¬∃b,qA=some b∧a.block=b.block:=fun a ha ⟨b,hb,e⟩=>h.qp b a hb ha e.symm
 have hsz:w.heap.size≤w1.heap.size:=hk.size
 have pk:∀{A:Option Addr} {n c:Nat} {z:Nat→Int},Pkt w R A n c z→Pkt w1 R A n c z:=fun hp=>hp.keep hk (fun k ⟨a,ha,e⟩ hr=>h.dis k (by rw[e];exact h.wq a ha) hr)
 have pg:∀{A:Option Addr} {n c:Nat} {z:Nat→Int},Pkt w1 R A n c z→Pkt (w1.setCell ⟨rb,3,none⟩ (.slice qA' lq'.length qc')) R A n c z:=fun hp=>hp.keep hg (fun k e hr=>h.dis k (by rw[e];exact h.wg) hr)
 refine⟨?_,(h.p.keepF hk hs1).keepF hg (fun a e h2=>h.gp a e h2.symm),hs.keepF hg hgx,
  fun e he2=>pg (pk (h.pe e he2)),fun e he2=>pg (he e he2),.inl h.wg,
  fun a e=>.inr ⟨a,e,rfl⟩,fun a e=>.inl (h.wp a e),
  fun k hw hr=>?_,fun k hw=>?_,fun k hr=>⟨(h.rin k hr).1,Nat.lt_of_lt_of_le (Nat.lt_of_lt_of_le (h.rin k hr).2.1 hsz) hg.size,((h.rin k hr).2.2.keepF hk (fun⟨a,ha,e⟩=>h.dis k (by rw[e];first | exact h.wp a ha | exact h.wq a ha) hr)).keepF hg (fun e=>h.dis k (by rw[e];exact h.wg) hr)⟩⟩
 ·exact hg1.set_ 3 (.slice qA' lq'.length qc')
 ·rcases hw with hw | ⟨a,ha,rfl⟩
  ·exact h.dis k hw hr
  ·rcases hn a ha with ⟨a',ha',e'⟩ | hge
   ·exact h.dis _ (by rw[e'];exact h.wq a' ha') hr
   ·have:=(h.rin _ hr).2.1;omega
 ·rcases hw with hw | ⟨a,ha,rfl⟩
  ·exact⟨(h.win k hw).1,Nat.lt_of_lt_of_le (Nat.lt_of_lt_of_le (h.win k hw).2 hsz) hg.size⟩
  ·refine⟨?_,Nat.lt_of_lt_of_le (hs.lt ha) hg.size⟩
   rcases hn a ha with ⟨a',ha',e'⟩ | hge
   ·rw[e'];exact(h.win _ (h.wq a' ha')).1
   ·omega
end
structure FwP (w:World) (B:Nat) (P:List PV) (Q:List QV) (pA:Option Addr) (pc:Nat) (lp:List PE) (qA:Option Addr) (qc:Nat) (lq:List WE):Prop where
 pv:lp.map (·.v)=P
 qv:lq.map (·.v)=Q
 p:SL w 52 2 pA lp.length pc (lp.flatMap PE.cc)
 q:SL w 46 1 qA lq.length qc (lq.flatMap WE.cc)
 pe:∀e,e∈lp→Pkt w (fun k=>B≤k) e.A e.v.n e.c e.v.z
 qe:∀e,e∈lq→Pkt w (fun k=>B≤k) e.A e.v.n e.c e.v.z
 pB:∀a,pA=some a→B≤a.block
 qB:∀a,qA=some a→B≤a.block
 pu:∀e,e∈lp→∀a,e.A=some a→UnB w a.block
 qu:∀e,e∈lq→∀a,e.A=some a→UnB w a.block
 ps:∀e,e∈lp→∀a a',e.A=some a→(pA=some a'∨qA=some a')→a.block ≠ a'.block
 qs:∀e,e∈lq→∀a a',e.A=some a→(pA=some a'∨qA=some a')→a.block ≠ a'.block
set_option linter.unusedVariables false
attribute [local go_sem ↓] Go.wp_at_zero Go.wp_at_succ
set_option maxRecDepth 100000 in
set_option maxHeartbeats 12800000 in
theorem texport_un (g:Nat) (s:TS) (W0 R0:Nat→Prop) (w:World) (h:TxI w g s W0 R0) (hn:s.P.length≤1000000∧s.Q.length≤1000000) :
  Calls Tryz.prog 31 #[.pointer (some ⟨g,0,none⟩)] w fun e w'=>∃pA pc lp qA qc lq,e=.returned (.agg #[.int .u32 (s.next % 4294967296),.bool (decide (s.next=4294967296)),.slice pA lp.length pc,.slice qA lq.length qc])∧FwP w' w.heap.size s.P s.Q pA pc lp qA qc lq∧Below w.heap.size w w':=by
 have HM:=zh (fun(W:World) (hb:Below w.heap.size w W)=>tmade_ok g s W0 R0 W (h.below hb))
 obtain⟨qA0,qc0,lq0,pA0,pc0,lp0,ub,cb,hT⟩:=h
 have HT:=zh hT
 obtain⟨nx,hnx⟩:∃nx,nx=s.next:=⟨_,rfl⟩
 have n0:(0:Int)≤nx:=by rw[hnx];exact hT.next0.1
 have n1:nx≤4294967296:=by rw[hnx];exact hT.next0.2
 have HNX:=zh hnx
 rw[←hnx]
 obtain⟨m,hm⟩:∃m,m=lp0.length:=⟨_,rfl⟩
 obtain⟨mq,hmq⟩:∃mq,mq=lq0.length:=⟨_,rfl⟩
 have HMM:=zh hm
 have HMQ:=zh hmq
 have HM6:Hid (m≤1000000):=zh (by have:=congrArg List.length hT.pv;simp at this;omega)
 have HQ6:Hid (mq≤1000000):=zh (by have:=congrArg List.length hT.qv;simp at this;omega)
 have hm':(m:Int)≤9223372036854775807:=by have:=HM6.out;omega
 have hmq':(mq:Int)≤9223372036854775807:=by have:=HQ6.out;omega
 have hgl:=hT.blk.lt
 obtain⟨Bn,hBn⟩:∃Bn,Bn=w.heap.size:=⟨_,rfl⟩
 have HBN:=zh hBn
 clear hT hn hnx hm hmq
 go_enter Tryz.func31,Tryz.ntmps31
 go_upto_region 1 with (fail)
 refine wp_let (fun W=>Blk W w.heap.size 30 #[.int .u32 0,.bool false,.slice none 0 0,.slice none 0 0]∧Below w.heap.size w W) ⟨Blk.new _ _ _,((Below.refl _ w).alloc (Nat.le_refl _) _)⟩ ?_
 rintro W1 ⟨b1,b2⟩
 have B1:=zh b1
 have B2:=zh b2
 clear b1 b2
 rw[←hBn]at hgl B1 B2 HM ⊢
 clear hBn
 go_upto_region 3 with (first
  | (go_at_call 43;refine(HM.out _ B2.out).mono ?_;rintro e w2 ⟨rfl,rfl⟩))
 obtain⟨w2,hw2⟩:∃w2,w2=W1.drew:=⟨_,rfl⟩
 have xn0:W1.cell? ⟨g,41,none⟩=some (.int .u64 nx):=by rw[HNX.out];exact(HT.out.below (B2.out.mono (by rw[HBN.out];exact Nat.le_refl _))).cnext
 have X1:=zh xn0
 have hgr:g ≠ Bn:=by omega
 have HS:=zh (show ∀W',KeepF (fun j=>j=Bn) W1 W'→W'.cell? ⟨g,41,none⟩=some (.int .u64 nx)from fun W' hW=>(hW.cell (p:=⟨g,41,none⟩) (by show g < _;have:=B1.out.lt;omega) hgr).trans X1.out)
 have hB0:Blk w2 Bn 30 #[.int .u32 0,.bool false,.slice none 0 0,.slice none 0 0]:=by rw[hw2];exact B1.out.drew
 have hbw:Below Bn w w2:=by rw[hw2];exact B2.out.drew
 refine wp_region_held_drew (S:=fun w'=>KeepF (fun j=>j=Bn) W1 w') (by kernel_rfl) ((KeepF.refl (w:=W1)).drew) (fun hHeld=>?_)
 rw[←hw2]
 rw[←hw2]at hHeld
 clear hw2 xn0
 refine tkH (i:=0) (oi:=⟨some 10,_,_,_,_,_⟩) (v:=.pointer (some ⟨g,0,none⟩)) rfl (Or.inl ⟨by rfl,fun W hW=>(by rfl)⟩) (by assumption) ?_
 refine tkH (i:=1) (oi:=⟨some 11,_,_,_,_,_⟩) (v:=.pointer (some ⟨g,0,none⟩)) rfl (Or.inl ⟨by rfl,fun W hW=>(by rfl)⟩) (by assumption) ?_
 refine tkH (i:=2) (oi:=⟨some 12,_,_,_,_,_⟩) (v:=.pointer (some ⟨g,41,none⟩)) rfl (Or.inl ⟨by rfl,fun W hW=>(by go_simp)⟩) (by assumption) ?_
 refine tkH (i:=3) (oi:=⟨some 13,_,_,_,_,_⟩) (v:=.int .u64 nx) rfl (Or.inl ⟨by rfl,fun W hW=>(by have u:=HS.out W hW;go_simp)⟩) (by assumption) ?_
 refine tkH (i:=4) (oi:=⟨some 14,_,_,_,_,_⟩) (v:=.int .u32 (nx % 4294967296)) rfl (Or.inl ⟨by rfl,fun W hW=>(by go_simp;rfl)⟩) (by assumption) ?_
 refine tkH (i:=5) (oi:=⟨some 15,_,_,_,_,_⟩) (v:=.pointer (some ⟨g,0,none⟩)) rfl (Or.inl ⟨by rfl,fun W hW=>(by rfl)⟩) (by assumption) ?_
 refine tkH (i:=6) (oi:=⟨some 16,_,_,_,_,_⟩) (v:=.pointer (some ⟨g,0,none⟩)) rfl (Or.inl ⟨by rfl,fun W hW=>(by rfl)⟩) (by assumption) ?_
 refine tkH (i:=7) (oi:=⟨some 17,_,_,_,_,_⟩) (v:=.pointer (some ⟨g,41,none⟩)) rfl (Or.inl ⟨by rfl,fun W hW=>(by go_simp)⟩) (by assumption) ?_
 refine tkH (i:=8) (oi:=⟨some 18,_,_,_,_,_⟩) (v:=.int .u64 nx) rfl (Or.inl ⟨by rfl,fun W hW=>(by have u:=HS.out W hW;go_simp)⟩) (by assumption) ?_
 refine tkH (i:=9) (oi:=⟨some 19,_,_,_,_,_⟩) (v:=.bool (decide (nx=4294967296))) rfl (Or.inl ⟨by rfl,fun W hW=>(by go_simp;rfl)⟩) (by assumption) ?_
 refine tkH (i:=10) (oi:=⟨some 20,_,_,_,_,_⟩) (v:=.pointer (some ⟨Bn,0,none⟩)) rfl (Or.inl ⟨by rfl,fun W hW=>(by go_simp)⟩) (by assumption) ?_
 refine wpAnyH_ready (rs:=[11]) (by kernel_rfl) (by simp) ?_
 refine AllReadyH.cons (o:=⟨none,_,_,_,_,_⟩) rfl (fun K hK=>?_) AllReadyH.nil
 rw[if_pos (by rfl)]
 have hc0:=hB0.cell 0
 have hf0:=hB0.frozen 0
 simp at hc0
 go_simp
 have hB1:=hB0.set_ 0 (.int .u32 (nx % 4294967296))
 have hS1:KeepF (fun j=>j=Bn) W1 (w2.setCell ⟨Bn,0,none⟩ (.int .u32 (nx % 4294967296))):=hHeld.setCell (p:=⟨Bn,0,none⟩) rfl _
 have hbw1:Below Bn w (w2.setCell ⟨Bn,0,none⟩ (.int .u32 (nx % 4294967296))):=hbw.setCell (p:=⟨Bn,0,none⟩) (Nat.le_refl _) _
 refine hK.out _ _ hS1 (fun hHeld=>?_)
 clear hK K hS1 hc0 hf0 hB0 hbw
 try simp only[Act.put,List.setIfInBounds_toArray,List.set_cons_zero,List.set_cons_succ]
 generalize w2.setCell ⟨Bn,0,none⟩ (.int .u32 (nx % 4294967296))=w3 at *
 refine tkH (i:=12) (oi:=⟨some 21,_,_,_,_,_⟩) (v:=.pointer (some ⟨Bn,1,none⟩)) rfl (Or.inl ⟨by rfl,fun W hW=>(by go_simp)⟩) (by assumption) ?_
 refine wpAnyH_ready (rs:=[13]) (by kernel_rfl) (by simp) ?_
 refine AllReadyH.cons (o:=⟨none,_,_,_,_,_⟩) rfl (fun K hK=>?_) AllReadyH.nil
 rw[if_pos (by rfl)]
 have hc0:=hB1.cell 1
 have hf0:=hB1.frozen 1
 simp at hc0
 go_simp
 have hB2:=hB1.set_ 1 (.bool (decide (nx=4294967296)))
 have hS1:KeepF (fun j=>j=Bn) W1 (w3.setCell ⟨Bn,1,none⟩ (.bool (decide (nx=4294967296)))):=hHeld.setCell (p:=⟨Bn,1,none⟩) rfl _
 have hbw2:Below Bn w (w3.setCell ⟨Bn,1,none⟩ (.bool (decide (nx=4294967296)))):=hbw1.setCell (p:=⟨Bn,1,none⟩) (Nat.le_refl _) _
 refine hK.out _ _ hS1 (fun hHeld=>?_)
 clear hK K hS1 hc0 hf0 hB1 hbw1 hHeld
 generalize w3.setCell ⟨Bn,1,none⟩ (.bool (decide (nx=4294967296)))=w4 at *
 try simp only[Act.put]
 refine wpAnyH_done (by kernel_rfl) ?_ _
 obtain⟨us,hus⟩:∃us,us=decide (nx=4294967296):=⟨_,rfl⟩
 obtain⟨ny,hny⟩:∃ny,ny=nx % 4294967296:=⟨_,rfl⟩
 rw[←hus,←hny]at hB2 ⊢
 have hF0:FwN w4 Bn Bn ny us (fun k=>k=Bn) (fun _=>False) none 0 [] none 0 []:=⟨by simpa using hB2,SL.nil _ _ _,SL.nil _ _ _,fun e he=>(by cases he),fun e he=>(by cases he),rfl,fun a e=>(by cases e),fun a e=>(by cases e),fun k _ hr=>hr,fun k hk=>⟨by omega,by rw[hk];exact hB2.lt⟩,fun k hr=>hr.elim⟩
 have F0:=zh hF0
 have B4:=zh hbw2
 have T4:=zh (HT.out.below (hbw2.mono (by rw[HBN.out];exact Nat.le_refl _)))
 have xp:=T4.out.cp
 rw[←HMM.out]at xp
 have HNY:=zh hny
 have HUS:=zh hus
 clear hF0 hbw2 hB2 hus hny X1 HS n0 n1
 go_wp2
 go_loopw [27] (fun v wr=>∃(k:Nat) (W R:Nat→Prop) (pA:Option Addr) (pc:Nat) (lp:List PE),k≤m∧v=.int .i64 k∧FwN wr Bn Bn ny us W R pA pc lp none 0 []∧lp.map (·.v)=(lp0.take k).map (·.v)∧Below Bn w wr) (fun v _=>m-(intOf v).toNat)
 case atStart=>exact⟨0,_,_,_,_,_,by omega,rfl,F0.out,by simp,B4.out⟩
 case round=>
  clear xp F0 B4 T4
  obtain⟨k,W,R,pA,pc,lp,hk,rfl,hF,hv,hb⟩:=hrel
  have FF:=zh hF
  have BB:=zh hb
  have VV:=zh hv
  have hbs:Bn≤wr.heap.size:=by have:=hb.size;have:=HBN.out;omega
  have TT:=zh (HT.out.below (hb.mono (by rw[HBN.out];exact Nat.le_refl _)))
  clear hF hv hb
  by_cases hlt:k < m
  ·obtain⟨e0,he0⟩:∃e0,lp0[k]? = some e0:=⟨lp0[k]'(by have:=HMM.out;omega),by simp[HMM.out ▸ hlt]⟩
   obtain⟨b,o,hpA,hlb,c0,c1,c2⟩:=TT.out.pcell he0
   have hpk:=TT.out.pe e0 (List.mem_of_getElem? he0)
   have hpr:=TT.out.pr e0.v (by rw[←TT.out.pv];exact List.mem_map_of_mem (List.mem_of_getElem? he0))
   have HE:=zh he0
   obtain⟨⟨x,n,z,rep⟩,A,c⟩:=e0
   dsimp only at c0 c1 c2 hpk hpr
   obtain⟨r0,r1⟩:=hpr
   have HPK:=zh hpk
   have k0:(0:Int)≤(k:Int):=by omega
   have k1:(k:Int) < (m:Int):=by omega
   subst hpA
   clear hpk he0
   go_upto_region 7 with (fail)
   refine wp_let (fun W'=>Blk W' wr.heap.size 69 #[.int .u32 x,.slice A n c,.bool rep]∧Below wr.heap.size wr W') ⟨Blk.new _ _ _,(Below.refl _ wr).alloc (Nat.le_refl _) _⟩ ?_
   rintro W6 ⟨b6,b7⟩
   obtain⟨xb,hxb⟩:∃xb,xb=wr.heap.size:=⟨_,rfl⟩
   have hxg:xb ≠ Bn:=by have:=FF.out.blk.lt;omega
   have hxp:∀a,pA=some a→xb ≠ a.block:=fun a e=>by have:=FF.out.p.lt e;omega
   have F6:=zh (FF.out.below b7)
   have B6:=zh (show Below Bn w W6 from BB.out.trans (b7.mono hbs))
   have hs6:Bn≤W6.heap.size:=Nat.le_trans hbs b7.size
   have R6:=zh (show Row W6 W6.heap.size A n (fun j=>.int .u8 (z j))from HPK.out.row.next b7)
   have HBY:=zh HPK.out.byte
   have hp1:=HPK.out.pos
   have hp9:=HPK.out.max
   rw[←hxb]at b6 ⊢
   have X6:=zh b6
   clear b6 b7 hxb c0 c1 c2
   have HS:=zh (show ∀W',KeepF (fun j=>j=Bn∨∃a,pA=some a∧j=a.block) W6 W'→W'.cell? ⟨xb,0,none⟩=some (.int .u32 x)∧W'.cell? ⟨xb,1,none⟩=some (.slice A n c)from fun W' hW=>by
    have:=hW.blk X6.out (fun hf=>by rcases hf with h | ⟨a,ha,h⟩;exact hxg h;exact hxp a ha h)
    exact⟨this.cell 0,this.cell 1⟩)
   obtain⟨w0,hw0⟩:∃w0,w0=W6.drew:=⟨_,rfl⟩
   have T0:FwN w0 Bn Bn ny us W R pA pc lp none 0 []:=by rw[hw0];exact F6.out.below (Below.refl _ _).drew
   have hb0:Below W6.heap.size W6 w0:=by rw[hw0];exact(Below.refl _ _).drew
   obtain⟨ic,hic,hicz,hics,hicb⟩:=infoCnt
   refine wp_region_held_drew (S:=fun w'=>KeepF (fun j=>j=Bn∨∃a,pA=some a∧j=a.block) W6 w') (by kernel_rfl) ((KeepF.refl (w:=W6)).drew) (fun hHeld=>?_)
   rw[←hw0]
   rw[←hw0]at hHeld
   clear hw0
   obtain⟨pl,hpl⟩:∃pl,pl=lp.length:=⟨_,rfl⟩
   have HPL2:=zh hpl
   have HPL:Hid (pl=k):=zh (by have:=congrArg List.length VV.out;simp at this;have:=HMM.out;omega)
   have HTK:=zh (show(lp0.take (k+1)).map (·.v)=(lp0.take k).map (·.v)++[(⟨x,n,z,rep⟩:PV)]from by rw[List.take_add_one,HE.out,List.map_append];rfl)
   have hbF:Bn≤w0.heap.size:=Nat.le_trans hs6 hb0.size
   clear hpl
   refine tkH (i:=0) (oi:=⟨some 31,_,_,_,_,_⟩) (v:=.pointer (some ⟨Bn,2,none⟩)) rfl (Or.inl ⟨by rfl,fun W hW=>(by go_simp)⟩) (by assumption) ?_
   refine tkH (i:=2) (oi:=⟨some 33,_,_,_,_,_⟩) (v:=.pointer (some ⟨xb,0,none⟩)) rfl (Or.inl ⟨by rfl,fun W hW=>(by go_simp)⟩) (by assumption) ?_
   refine tkH (i:=3) (oi:=⟨some 34,_,_,_,_,_⟩) (v:=.pointer (some ⟨xb,0,none⟩)) rfl (Or.inl ⟨by rfl,fun W hW=>(by go_simp)⟩) (by assumption) ?_
   refine tkH (i:=4) (oi:=⟨some 35,_,_,_,_,_⟩) (v:=.int .u32 x) rfl (Or.inl ⟨by rfl,fun W hW=>(by obtain⟨u0,u1⟩:=HS.out W hW;go_simp)⟩) (by assumption) ?_
   refine tkH (i:=5) (oi:=⟨some 36,_,_,_,_,_⟩) (v:=.pointer (some ⟨xb,0,none⟩)) rfl (Or.inl ⟨by rfl,fun W hW=>(by go_simp)⟩) (by assumption) ?_
   refine tkH (i:=6) (oi:=⟨some 37,_,_,_,_,_⟩) (v:=.pointer (some ⟨xb,1,none⟩)) rfl (Or.inl ⟨by rfl,fun W hW=>(by go_simp)⟩) (by assumption) ?_
   refine tkH (i:=7) (oi:=⟨some 38,_,_,_,_,_⟩) (v:=.slice A n c) rfl (Or.inl ⟨by rfl,fun W hW=>(by obtain⟨u0,u1⟩:=HS.out W hW;go_simp)⟩) (by assumption) ?_
   refine wpAnyH_ready (rs:=[1,8]) (by kernel_rfl) (by simp) ?_
   refine AllReadyH.cons (o:=⟨some 32,_,_,_,_,_⟩) rfl (fun K hK=>?_) (AllReadyH.cons (o:=⟨some 39,_,_,_,_,_⟩) rfl (fun K hK=>?_) AllReadyH.nil)
   ·rw[if_pos (by rfl)]
    have h43:=T0.blk.cell 2
    simp at h43
    rw[←HPL2.out]at h43
    go_simp
    refine hK.out _ _ hHeld (fun hHeld=>?_)
    clear hK K h43
    try simp only[Act.put,List.setIfInBounds_toArray,List.set_cons_zero,List.set_cons_succ]
    refine wpAnyH_ready (rs:=[8]) (by kernel_rfl) (by simp) ?_
    refine AllReadyH.cons (o:=⟨some 39,_,_,_,_,_⟩) rfl (fun K hK=>?_) AllReadyH.nil
    rw[if_pos (by rfl)]
    go_simp
    refine(clone_un A n c z w0 (by omega) (R6.out.next hb0)).mono ?_
    rintro e w1' ⟨A2,c2',rfl,hc2,hR2,hF2,hbk,hUn⟩
    dsimp only
    have hFl:∀a,A2=some a→w0.heap.size≤a.block:=hF2
    have hFr:∀a,A2=some a→a.block < w1'.heap.size:=fun a e=>row_lt hR2 hp1 e
    have hwl1:∀j,W j→j < w0.heap.size:=fun j hj=>(T0.win j hj).2
    have hFB:∀a,A2=some a→Bn≤a.block:=fun a e=>by have:=hFl a e;have:=hb0.size;omega
    have T1:=T0.below hbk
    have hb1:Below W6.heap.size W6 w1':=hb0.trans (hbk.mono hb0.size)
    have hW2:∀j,W j→∀a,A2=some a→j ≠ a.block:=fun j hj a e=>by have:=hFl a e;have:=hwl1 j hj;omega
    refine hK.out _ _ (hHeld.more hbk) (fun hHeld=>?_)
    clear hK K hbk hF2
    try simp only[Act.put,List.setIfInBounds_toArray,List.set_cons_zero,List.set_cons_succ]
    refine tkH (i:=9) (oi:=⟨some 40,_,_,_,_,_⟩) (v:=.agg #[.int .u32 x,.slice A2 n c2']) rfl (Or.inl ⟨by rfl,fun W hW=>(by go_simp)⟩) (by assumption) ?_
    refine wpAnyH_ready (rs:=[10]) (by kernel_rfl) (by simp) ?_
    refine AllReadyH.cons (o:=⟨some 41,_,_,_,_,_⟩) rfl (fun K hK=>?_) AllReadyH.nil
    rw[if_pos (by rfl)]
    go_simp
    obtain⟨w2',hv⟩:∃X,X=w1'.alloc (.cells #[.int .u32 x,.slice A2 n c2'] 52):=⟨_,rfl⟩
    obtain⟨nb,hnb⟩:∃nb,nb=w1'.heap.size:=⟨_,rfl⟩
    have hbk:Below w1'.heap.size w1' w2':=by rw[hv];exact(Below.refl _ _).alloc (Nat.le_refl _) _
    have hNB:Blk w2' nb 52 #[.int .u32 x,.slice A2 n c2']:=by rw[hv,hnb];exact Blk.new _ _ _
    have T2:=T1.below hbk
    have hb2:Below W6.heap.size W6 w2':=hb1.trans (hbk.mono hb1.size)
    replace hR2:=hR2.next hbk
    replace hUn:∀a,A2=some a→UnB w2' a.block:=fun a e=>(hUn a e).below hbk
    replace hFr:∀a,A2=some a→a.block < w2'.heap.size:=fun a e=>Nat.lt_of_lt_of_le (hFr a e) hbk.size
    rw[←hv,←hnb]
    refine hK.out _ _ (hHeld.more hbk) (fun hHeld=>?_)
    clear hK K hbk hv hnb
    try simp only[Act.put,List.setIfInBounds_toArray,List.set_cons_zero,List.set_cons_succ]
    refine wpAnyH_ready (rs:=[11]) (by kernel_rfl) (by simp) ?_
    refine AllReadyH.cons (o:=⟨some 42,_,_,_,_,_⟩) rfl (fun K hK=>?_) AllReadyH.nil
    rw[if_pos (by rfl)]
    have hSL:=T2.p
    rw[←HPL2.out]at hSL
    refine wp_sl_append _ _ _ _ rfl w2' 52 ic (.agg #[.int .u32 0,.slice none 0 0]) 2 32 Tryz.underlying27 hic hicz hics hicb rfl pA pl pc (lp.flatMap PE.cc) rfl hSL _ rfl 1 [.int .u32 x,.slice A2 n c2'] (Src.ofSlice _ Tryz.underlying27 ⟨nb,0,none⟩ 1 1 _ rfl (fun j u hu=>by
      have hj:j < 2:=(List.getElem?_eq_some_iff.1 hu).1
      rw[Addr.add_lit,Nat.zero_add,hNB.cell j]
      simpa using hu) (by simp[Value.oneCell'])) (by decide) (by unfold maxLen;have:=HPL.out;have:=HM6.out;have:=HQ6.out;omega) (by have:=HPL.out;have:=HM6.out;have:=HQ6.out;omega) ?_
    intro A9 c9 wA hSL9 hK9 hA9
    dsimp only
    have hA9n:∀a,A9=some a→(∃a',pA=some a'∧a.block=a'.block)∨w2'.heap.size≤a.block:=hA9
    refine hK.out _ _ (hHeld.trans hK9 (fun j _ hj=>.inr hj)) (fun hHeld=>?_)
    clear hK K
    try simp only[Act.put,List.setIfInBounds_toArray,List.set_cons_zero,List.set_cons_succ]
    refine tkH (i:=12) (oi:=⟨some 43,_,_,_,_,_⟩) (v:=.pointer (some ⟨Bn,2,none⟩)) rfl (Or.inl ⟨by rfl,fun W hW=>(by go_simp)⟩) (by assumption) ?_
    refine wpAnyH_ready (rs:=[13]) (by kernel_rfl) (by simp) ?_
    refine AllReadyH.cons (o:=⟨none,_,_,_,_,_⟩) rfl (fun K hK=>?_) AllReadyH.nil
    rw[if_pos (by rfl)]
    have hg9:Blk wA Bn 30 _:=hK9.blk T2.blk (fun⟨a,ha,e⟩=>T2.gp a ha e)
    have hc43:=hg9.cell 2
    have hf43:=hg9.frozen 2
    simp at hc43
    have T9:=T2.moreR (R':=fun j=>R j∨∃a,A2=some a∧j=a.block) (fun j hj=>.inl hj) (fun j hw hr=>by rcases hr with hr | ⟨a,ha,e⟩;exact T2.dis j hw hr;exact hW2 j hw a ha e) (fun j hr=>by rcases hr with hr | ⟨a,ha,e⟩;exact T2.rin j hr;(rw[e];exact⟨hFB a ha,hFr a ha,hUn a ha⟩))
    have hpk9:∀e:PE,e∈lp++[(⟨⟨x,n,z,rep⟩,A2,c2'⟩:PE)]→Pkt wA (fun j=>R j∨∃a,A2=some a∧j=a.block) e.A e.v.n e.c e.v.z:=fun e he=>by
     have hx:Pkt w2' (fun j=>R j∨∃a,A2=some a∧j=a.block) e.A e.v.n e.c e.v.z:=by
      rcases List.mem_append.1 he with he | he
      ·exact T9.pe e he
      ·have:e=(⟨⟨x,n,z,rep⟩,A2,c2'⟩:PE):=by simpa using he
       rw[this]
       exact Pkt.of_clone hp1 hp9 hc2 HBY.out hR2
     exact hx.keep hK9 (fun j ⟨a,ha,e2⟩ hr=>T9.dis j (by rw[e2];exact T9.wp a ha) hr)
    have hlen9:(lp++[(⟨⟨x,n,z,rep⟩,A2,c2'⟩:PE)]).length=pl+1:=by rw[List.length_append,HPL2.out];rfl
    have hSL9':SL wA 52 2 A9 (lp++[(⟨⟨x,n,z,rep⟩,A2,c2'⟩:PE)]).length c9 ((lp++[(⟨⟨x,n,z,rep⟩,A2,c2'⟩:PE)]).flatMap PE.cc):=by
     rw[hlen9,List.flatMap_append]
     exact hSL9
    have TF:=T9.setP hK9 hA9n hSL9' hpk9
    rw[hlen9]at TF
    have hbA:Below Bn w wA:=KeepF.below ((show Below Bn w W6 from B6.out).trans (hb2.mono hs6)) (hK9.mono (G:=W) (fun j ⟨a,ha,e2⟩=>by rw[e2];exact T2.wp a ha)) (fun j hj=>(T2.win j hj).1) (Nat.le_trans hs6 hb2.size)
    have HTF:=zh TF
    have HBF:=zh (show Below Bn w (wA.setCell ⟨Bn,2,none⟩ (.slice A9 (pl+1) c9))from hbA.setCell (p:=⟨Bn,2,none⟩) (Nat.le_refl _) _)
    have HVF:=zh (show(lp++[(⟨⟨x,n,z,rep⟩,A2,c2'⟩:PE)]).map (·.v)=(lp0.take (k+1)).map (·.v)from by rw[HTK.out,List.map_append,VV.out];rfl)
    have hS9:KeepF (fun j=>j=Bn∨∃a,pA=some a∧j=a.block) W6 (wA.setCell ⟨Bn,2,none⟩ (.slice A9 (pl+1) c9)):=hHeld.setCell (p:=⟨Bn,2,none⟩) (.inl rfl) _
    clear TF hSL9 hSL9' hpk9 hK9 hA9 hA9n T9 hg9 hSL hbA
    go_simp
    refine hK.out _ _ hS9 (fun hHeld=>?_)
    clear hK K hS9
    try simp only[Act.put]
    refine wpAnyH_done (by kernel_rfl) ?_ _
    go_wp2
    go_roundw
    case rel=>first | exact⟨k+1,_,_,_,_,_,by omega,by go_num,HTF.out,HVF.out,HBF.out⟩ | ((repeat apply Exists.intro);exact⟨⟨by omega,by go_num,HTF.out,HVF.out,HBF.out⟩,rfl⟩)
    case measure=>simp[intOf];omega
   ·rw[if_pos (by rfl)]
    go_simp
    refine(clone_un A n c z w0 (by omega) (R6.out.next hb0)).mono ?_
    rintro e w1' ⟨A2,c2',rfl,hc2,hR2,hF2,hbk,hUn⟩
    dsimp only
    have hFl:∀a,A2=some a→w0.heap.size≤a.block:=hF2
    have hFr:∀a,A2=some a→a.block < w1'.heap.size:=fun a e=>row_lt hR2 hp1 e
    have hwl1:∀j,W j→j < w0.heap.size:=fun j hj=>(T0.win j hj).2
    have hFB:∀a,A2=some a→Bn≤a.block:=fun a e=>by have:=hFl a e;have:=hb0.size;omega
    have T1:=T0.below hbk
    have hb1:Below W6.heap.size W6 w1':=hb0.trans (hbk.mono hb0.size)
    have hW2:∀j,W j→∀a,A2=some a→j ≠ a.block:=fun j hj a e=>by have:=hFl a e;have:=hwl1 j hj;omega
    refine hK.out _ _ (hHeld.more hbk) (fun hHeld=>?_)
    clear hK K hbk hF2
    try simp only[Act.put,List.setIfInBounds_toArray,List.set_cons_zero,List.set_cons_succ]
    refine tkH (i:=9) (oi:=⟨some 40,_,_,_,_,_⟩) (v:=.agg #[.int .u32 x,.slice A2 n c2']) rfl (Or.inl ⟨by rfl,fun W hW=>(by go_simp)⟩) (by assumption) ?_
    refine wpAnyH_ready (rs:=[1,10]) (by kernel_rfl) (by simp) ?_
    refine AllReadyH.cons (o:=⟨some 32,_,_,_,_,_⟩) rfl (fun K hK=>?_) (AllReadyH.cons (o:=⟨some 41,_,_,_,_,_⟩) rfl (fun K hK=>?_) AllReadyH.nil)
    ·rw[if_pos (by rfl)]
     have h43:=T1.blk.cell 2
     simp at h43
     rw[←HPL2.out]at h43
     go_simp
     refine hK.out _ _ hHeld (fun hHeld=>?_)
     clear hK K h43
     try simp only[Act.put,List.setIfInBounds_toArray,List.set_cons_zero,List.set_cons_succ]
     refine wpAnyH_ready (rs:=[10]) (by kernel_rfl) (by simp) ?_
     refine AllReadyH.cons (o:=⟨some 41,_,_,_,_,_⟩) rfl (fun K hK=>?_) AllReadyH.nil
     rw[if_pos (by rfl)]
     go_simp
     obtain⟨w2',hv⟩:∃X,X=w1'.alloc (.cells #[.int .u32 x,.slice A2 n c2'] 52):=⟨_,rfl⟩
     obtain⟨nb,hnb⟩:∃nb,nb=w1'.heap.size:=⟨_,rfl⟩
     have hbk:Below w1'.heap.size w1' w2':=by rw[hv];exact(Below.refl _ _).alloc (Nat.le_refl _) _
     have hNB:Blk w2' nb 52 #[.int .u32 x,.slice A2 n c2']:=by rw[hv,hnb];exact Blk.new _ _ _
     have T2:=T1.below hbk
     have hb2:Below W6.heap.size W6 w2':=hb1.trans (hbk.mono hb1.size)
     replace hR2:=hR2.next hbk
     replace hUn:∀a,A2=some a→UnB w2' a.block:=fun a e=>(hUn a e).below hbk
     replace hFr:∀a,A2=some a→a.block < w2'.heap.size:=fun a e=>Nat.lt_of_lt_of_le (hFr a e) hbk.size
     rw[←hv,←hnb]
     refine hK.out _ _ (hHeld.more hbk) (fun hHeld=>?_)
     clear hK K hbk hv hnb
     try simp only[Act.put,List.setIfInBounds_toArray,List.set_cons_zero,List.set_cons_succ]
     refine wpAnyH_ready (rs:=[11]) (by kernel_rfl) (by simp) ?_
     refine AllReadyH.cons (o:=⟨some 42,_,_,_,_,_⟩) rfl (fun K hK=>?_) AllReadyH.nil
     rw[if_pos (by rfl)]
     have hSL:=T2.p
     rw[←HPL2.out]at hSL
     refine wp_sl_append _ _ _ _ rfl w2' 52 ic (.agg #[.int .u32 0,.slice none 0 0]) 2 32 Tryz.underlying27 hic hicz hics hicb rfl pA pl pc (lp.flatMap PE.cc) rfl hSL _ rfl 1 [.int .u32 x,.slice A2 n c2'] (Src.ofSlice _ Tryz.underlying27 ⟨nb,0,none⟩ 1 1 _ rfl (fun j u hu=>by
       have hj:j < 2:=(List.getElem?_eq_some_iff.1 hu).1
       rw[Addr.add_lit,Nat.zero_add,hNB.cell j]
       simpa using hu) (by simp[Value.oneCell'])) (by decide) (by unfold maxLen;have:=HPL.out;have:=HM6.out;have:=HQ6.out;omega) (by have:=HPL.out;have:=HM6.out;have:=HQ6.out;omega) ?_
     intro A9 c9 wA hSL9 hK9 hA9
     dsimp only
     have hA9n:∀a,A9=some a→(∃a',pA=some a'∧a.block=a'.block)∨w2'.heap.size≤a.block:=hA9
     refine hK.out _ _ (hHeld.trans hK9 (fun j _ hj=>.inr hj)) (fun hHeld=>?_)
     clear hK K
     try simp only[Act.put,List.setIfInBounds_toArray,List.set_cons_zero,List.set_cons_succ]
     refine tkH (i:=12) (oi:=⟨some 43,_,_,_,_,_⟩) (v:=.pointer (some ⟨Bn,2,none⟩)) rfl (Or.inl ⟨by rfl,fun W hW=>(by go_simp)⟩) (by assumption) ?_
     refine wpAnyH_ready (rs:=[13]) (by kernel_rfl) (by simp) ?_
     refine AllReadyH.cons (o:=⟨none,_,_,_,_,_⟩) rfl (fun K hK=>?_) AllReadyH.nil
     rw[if_pos (by rfl)]
     have hg9:Blk wA Bn 30 _:=hK9.blk T2.blk (fun⟨a,ha,e⟩=>T2.gp a ha e)
     have hc43:=hg9.cell 2
     have hf43:=hg9.frozen 2
     simp at hc43
     have T9:=T2.moreR (R':=fun j=>R j∨∃a,A2=some a∧j=a.block) (fun j hj=>.inl hj) (fun j hw hr=>by rcases hr with hr | ⟨a,ha,e⟩;exact T2.dis j hw hr;exact hW2 j hw a ha e) (fun j hr=>by rcases hr with hr | ⟨a,ha,e⟩;exact T2.rin j hr;(rw[e];exact⟨hFB a ha,hFr a ha,hUn a ha⟩))
     have hpk9:∀e:PE,e∈lp++[(⟨⟨x,n,z,rep⟩,A2,c2'⟩:PE)]→Pkt wA (fun j=>R j∨∃a,A2=some a∧j=a.block) e.A e.v.n e.c e.v.z:=fun e he=>by
      have hx:Pkt w2' (fun j=>R j∨∃a,A2=some a∧j=a.block) e.A e.v.n e.c e.v.z:=by
       rcases List.mem_append.1 he with he | he
       ·exact T9.pe e he
       ·have:e=(⟨⟨x,n,z,rep⟩,A2,c2'⟩:PE):=by simpa using he
        rw[this]
        exact Pkt.of_clone hp1 hp9 hc2 HBY.out hR2
      exact hx.keep hK9 (fun j ⟨a,ha,e2⟩ hr=>T9.dis j (by rw[e2];exact T9.wp a ha) hr)
     have hlen9:(lp++[(⟨⟨x,n,z,rep⟩,A2,c2'⟩:PE)]).length=pl+1:=by rw[List.length_append,HPL2.out];rfl
     have hSL9':SL wA 52 2 A9 (lp++[(⟨⟨x,n,z,rep⟩,A2,c2'⟩:PE)]).length c9 ((lp++[(⟨⟨x,n,z,rep⟩,A2,c2'⟩:PE)]).flatMap PE.cc):=by
      rw[hlen9,List.flatMap_append]
      exact hSL9
     have TF:=T9.setP hK9 hA9n hSL9' hpk9
     rw[hlen9]at TF
     have hbA:Below Bn w wA:=KeepF.below ((show Below Bn w W6 from B6.out).trans (hb2.mono hs6)) (hK9.mono (G:=W) (fun j ⟨a,ha,e2⟩=>by rw[e2];exact T2.wp a ha)) (fun j hj=>(T2.win j hj).1) (Nat.le_trans hs6 hb2.size)
     have HTF:=zh TF
     have HBF:=zh (show Below Bn w (wA.setCell ⟨Bn,2,none⟩ (.slice A9 (pl+1) c9))from hbA.setCell (p:=⟨Bn,2,none⟩) (Nat.le_refl _) _)
     have HVF:=zh (show(lp++[(⟨⟨x,n,z,rep⟩,A2,c2'⟩:PE)]).map (·.v)=(lp0.take (k+1)).map (·.v)from by rw[HTK.out,List.map_append,VV.out];rfl)
     have hS9:KeepF (fun j=>j=Bn∨∃a,pA=some a∧j=a.block) W6 (wA.setCell ⟨Bn,2,none⟩ (.slice A9 (pl+1) c9)):=hHeld.setCell (p:=⟨Bn,2,none⟩) (.inl rfl) _
     clear TF hSL9 hSL9' hpk9 hK9 hA9 hA9n T9 hg9 hSL hbA
     go_simp
     refine hK.out _ _ hS9 (fun hHeld=>?_)
     clear hK K hS9
     try simp only[Act.put]
     refine wpAnyH_done (by kernel_rfl) ?_ _
     go_wp2
     go_roundw
     case rel=>first | exact⟨k+1,_,_,_,_,_,by omega,by go_num,HTF.out,HVF.out,HBF.out⟩ | ((repeat apply Exists.intro);exact⟨⟨by omega,by go_num,HTF.out,HVF.out,HBF.out⟩,rfl⟩)
     case measure=>simp[intOf];omega
    ·rw[if_pos (by rfl)]
     go_simp
     obtain⟨w2',hv⟩:∃X,X=w1'.alloc (.cells #[.int .u32 x,.slice A2 n c2'] 52):=⟨_,rfl⟩
     obtain⟨nb,hnb⟩:∃nb,nb=w1'.heap.size:=⟨_,rfl⟩
     have hbk:Below w1'.heap.size w1' w2':=by rw[hv];exact(Below.refl _ _).alloc (Nat.le_refl _) _
     have hNB:Blk w2' nb 52 #[.int .u32 x,.slice A2 n c2']:=by rw[hv,hnb];exact Blk.new _ _ _
     have T2:=T1.below hbk
     have hb2:Below W6.heap.size W6 w2':=hb1.trans (hbk.mono hb1.size)
     replace hR2:=hR2.next hbk
     replace hUn:∀a,A2=some a→UnB w2' a.block:=fun a e=>(hUn a e).below hbk
     replace hFr:∀a,A2=some a→a.block < w2'.heap.size:=fun a e=>Nat.lt_of_lt_of_le (hFr a e) hbk.size
     rw[←hv,←hnb]
     refine hK.out _ _ (hHeld.more hbk) (fun hHeld=>?_)
     clear hK K hbk hv hnb
     try simp only[Act.put,List.setIfInBounds_toArray,List.set_cons_zero,List.set_cons_succ]
     refine wpAnyH_ready (rs:=[1]) (by kernel_rfl) (by simp) ?_
     refine AllReadyH.cons (o:=⟨some 32,_,_,_,_,_⟩) rfl (fun K hK=>?_) AllReadyH.nil
     rw[if_pos (by rfl)]
     have h43:=T2.blk.cell 2
     simp at h43
     rw[←HPL2.out]at h43
     go_simp
     refine hK.out _ _ hHeld (fun hHeld=>?_)
     clear hK K h43
     try simp only[Act.put,List.setIfInBounds_toArray,List.set_cons_zero,List.set_cons_succ]
     refine wpAnyH_ready (rs:=[11]) (by kernel_rfl) (by simp) ?_
     refine AllReadyH.cons (o:=⟨some 42,_,_,_,_,_⟩) rfl (fun K hK=>?_) AllReadyH.nil
     rw[if_pos (by rfl)]
     have hSL:=T2.p
     rw[←HPL2.out]at hSL
     refine wp_sl_append _ _ _ _ rfl w2' 52 ic (.agg #[.int .u32 0,.slice none 0 0]) 2 32 Tryz.underlying27 hic hicz hics hicb rfl pA pl pc (lp.flatMap PE.cc) rfl hSL _ rfl 1 [.int .u32 x,.slice A2 n c2'] (Src.ofSlice _ Tryz.underlying27 ⟨nb,0,none⟩ 1 1 _ rfl (fun j u hu=>by
       have hj:j < 2:=(List.getElem?_eq_some_iff.1 hu).1
       rw[Addr.add_lit,Nat.zero_add,hNB.cell j]
       simpa using hu) (by simp[Value.oneCell'])) (by decide) (by unfold maxLen;have:=HPL.out;have:=HM6.out;have:=HQ6.out;omega) (by have:=HPL.out;have:=HM6.out;have:=HQ6.out;omega) ?_
     intro A9 c9 wA hSL9 hK9 hA9
     dsimp only
     have hA9n:∀a,A9=some a→(∃a',pA=some a'∧a.block=a'.block)∨w2'.heap.size≤a.block:=hA9
     refine hK.out _ _ (hHeld.trans hK9 (fun j _ hj=>.inr hj)) (fun hHeld=>?_)
     clear hK K
     try simp only[Act.put,List.setIfInBounds_toArray,List.set_cons_zero,List.set_cons_succ]
     refine tkH (i:=12) (oi:=⟨some 43,_,_,_,_,_⟩) (v:=.pointer (some ⟨Bn,2,none⟩)) rfl (Or.inl ⟨by rfl,fun W hW=>(by go_simp)⟩) (by assumption) ?_
     refine wpAnyH_ready (rs:=[13]) (by kernel_rfl) (by simp) ?_
     refine AllReadyH.cons (o:=⟨none,_,_,_,_,_⟩) rfl (fun K hK=>?_) AllReadyH.nil
     rw[if_pos (by rfl)]
     have hg9:Blk wA Bn 30 _:=hK9.blk T2.blk (fun⟨a,ha,e⟩=>T2.gp a ha e)
     have hc43:=hg9.cell 2
     have hf43:=hg9.frozen 2
     simp at hc43
     have T9:=T2.moreR (R':=fun j=>R j∨∃a,A2=some a∧j=a.block) (fun j hj=>.inl hj) (fun j hw hr=>by rcases hr with hr | ⟨a,ha,e⟩;exact T2.dis j hw hr;exact hW2 j hw a ha e) (fun j hr=>by rcases hr with hr | ⟨a,ha,e⟩;exact T2.rin j hr;(rw[e];exact⟨hFB a ha,hFr a ha,hUn a ha⟩))
     have hpk9:∀e:PE,e∈lp++[(⟨⟨x,n,z,rep⟩,A2,c2'⟩:PE)]→Pkt wA (fun j=>R j∨∃a,A2=some a∧j=a.block) e.A e.v.n e.c e.v.z:=fun e he=>by
      have hx:Pkt w2' (fun j=>R j∨∃a,A2=some a∧j=a.block) e.A e.v.n e.c e.v.z:=by
       rcases List.mem_append.1 he with he | he
       ·exact T9.pe e he
       ·have:e=(⟨⟨x,n,z,rep⟩,A2,c2'⟩:PE):=by simpa using he
        rw[this]
        exact Pkt.of_clone hp1 hp9 hc2 HBY.out hR2
      exact hx.keep hK9 (fun j ⟨a,ha,e2⟩ hr=>T9.dis j (by rw[e2];exact T9.wp a ha) hr)
     have hlen9:(lp++[(⟨⟨x,n,z,rep⟩,A2,c2'⟩:PE)]).length=pl+1:=by rw[List.length_append,HPL2.out];rfl
     have hSL9':SL wA 52 2 A9 (lp++[(⟨⟨x,n,z,rep⟩,A2,c2'⟩:PE)]).length c9 ((lp++[(⟨⟨x,n,z,rep⟩,A2,c2'⟩:PE)]).flatMap PE.cc):=by
      rw[hlen9,List.flatMap_append]
      exact hSL9
     have TF:=T9.setP hK9 hA9n hSL9' hpk9
     rw[hlen9]at TF
     have hbA:Below Bn w wA:=KeepF.below ((show Below Bn w W6 from B6.out).trans (hb2.mono hs6)) (hK9.mono (G:=W) (fun j ⟨a,ha,e2⟩=>by rw[e2];exact T2.wp a ha)) (fun j hj=>(T2.win j hj).1) (Nat.le_trans hs6 hb2.size)
     have HTF:=zh TF
     have HBF:=zh (show Below Bn w (wA.setCell ⟨Bn,2,none⟩ (.slice A9 (pl+1) c9))from hbA.setCell (p:=⟨Bn,2,none⟩) (Nat.le_refl _) _)
     have HVF:=zh (show(lp++[(⟨⟨x,n,z,rep⟩,A2,c2'⟩:PE)]).map (·.v)=(lp0.take (k+1)).map (·.v)from by rw[HTK.out,List.map_append,VV.out];rfl)
     have hS9:KeepF (fun j=>j=Bn∨∃a,pA=some a∧j=a.block) W6 (wA.setCell ⟨Bn,2,none⟩ (.slice A9 (pl+1) c9)):=hHeld.setCell (p:=⟨Bn,2,none⟩) (.inl rfl) _
     clear TF hSL9 hSL9' hpk9 hK9 hA9 hA9n T9 hg9 hSL hbA
     go_simp
     refine hK.out _ _ hS9 (fun hHeld=>?_)
     clear hK K hS9
     try simp only[Act.put]
     refine wpAnyH_done (by kernel_rfl) ?_ _
     go_wp2
     go_roundw
     case rel=>first | exact⟨k+1,_,_,_,_,_,by omega,by go_num,HTF.out,HVF.out,HBF.out⟩ | ((repeat apply Exists.intro);exact⟨⟨by omega,by go_num,HTF.out,HVF.out,HBF.out⟩,rfl⟩)
     case measure=>simp[intOf];omega
  ·obtain rfl:k=m:=by omega
   have hlv:lp.map (·.v)=s.P:=by rw[VV.out,←TT.out.pv,HMM.out,List.take_length]
   have HLV:=zh hlv
   have xq:=TT.out.cq
   rw[←HMQ.out]at xq
   clear hlv
   go_wp2
   go_loopw [50] (fun v wq=>∃(j:Nat) (W R:Nat→Prop) (qA:Option Addr) (qc:Nat) (lq:List WE),j≤mq∧v=.int .i64 j∧FwN wq Bn Bn ny us W R pA pc lp qA qc lq∧lq.map (·.v)=(lq0.take j).map (·.v)∧Below Bn w wq) (fun v _=>mq-(intOf v).toNat)
   case atStart=>exact⟨0,_,_,_,_,_,by omega,rfl,FF.out,by simp,BB.out⟩
   case round=>
    clear xq FF BB TT VV hbs W R
    obtain⟨j,W,R,qA,qc,lq,hj,rfl,hF,hv,hb⟩:=hrel
    have FF:=zh hF
    have BB:=zh hb
    have VV:=zh hv
    have hbs:Bn≤wr.heap.size:=by have:=hb.size;have:=HBN.out;omega
    have TT:=zh (HT.out.below (hb.mono (by rw[HBN.out];exact Nat.le_refl _)))
    clear hF hv hb
    by_cases hlt:j < mq
    ·obtain⟨e0,he0⟩:∃e0,lq0[j]? = some e0:=⟨lq0[j]'(by have:=HMQ.out;omega),by simp[HMQ.out ▸ hlt]⟩
     obtain⟨b,o,hpA,hlb,c0,c1⟩:=TT.out.qcell he0
     have hpk:=TT.out.qe e0 (List.mem_of_getElem? he0)
     have HE:=zh he0
     obtain⟨⟨n,z,at_⟩,A,c⟩:=e0
     dsimp only at c0 c1 hpk
     have HPK:=zh hpk
     have k0:(0:Int)≤(j:Int):=by omega
     have k1:(j:Int) < (mq:Int):=by omega
     subst hpA
     clear hpk he0
     go_upto_region 12 with (fail)
     refine wp_let (fun W'=>Blk W' wr.heap.size 71 #[.slice A n c,.int .i64 at_]∧Below wr.heap.size wr W') ⟨Blk.new _ _ _,(Below.refl _ wr).alloc (Nat.le_refl _) _⟩ ?_
     rintro W6 ⟨b6,b7⟩
     obtain⟨xb,hxb⟩:∃xb,xb=wr.heap.size:=⟨_,rfl⟩
     have hxg:xb ≠ Bn:=by have:=FF.out.blk.lt;omega
     have hxp:∀a,qA=some a→xb ≠ a.block:=fun a e=>by have:=FF.out.q.lt e;omega
     have F6:=zh (FF.out.below b7)
     have B6:=zh (show Below Bn w W6 from BB.out.trans (b7.mono hbs))
     have hs6:Bn≤W6.heap.size:=Nat.le_trans hbs b7.size
     have R6:=zh (show Row W6 W6.heap.size A n (fun j=>.int .u8 (z j))from HPK.out.row.next b7)
     have HBY:=zh HPK.out.byte
     have hp1:=HPK.out.pos
     have hp9:=HPK.out.max
     rw[←hxb]at b6 ⊢
     have X6:=zh b6
     clear b6 b7 hxb c0 c1
     have HS:=zh (show ∀W',KeepF (fun j=>j=Bn∨∃a,qA=some a∧j=a.block) W6 W'→W'.cell? ⟨xb,0,none⟩=some (.slice A n c)from fun W' hW=>by
      have:=hW.blk X6.out (fun hf=>by rcases hf with h | ⟨a,ha,h⟩;exact hxg h;exact hxp a ha h)
      exact this.cell 0)
     obtain⟨w0,hw0⟩:∃w0,w0=W6.drew:=⟨_,rfl⟩
     have T0:FwN w0 Bn Bn ny us W R pA pc lp qA qc lq:=by rw[hw0];exact F6.out.below (Below.refl _ _).drew
     have hb0:Below W6.heap.size W6 w0:=by rw[hw0];exact(Below.refl _ _).drew
     obtain⟨is,his,hisz,hiss,hisb⟩:=infoBs
     refine wp_region_held_drew (S:=fun w'=>KeepF (fun j=>j=Bn∨∃a,qA=some a∧j=a.block) W6 w') (by kernel_rfl) ((KeepF.refl (w:=W6)).drew) (fun hHeld=>?_)
     rw[←hw0]
     rw[←hw0]at hHeld
     clear hw0
     obtain⟨pl,hpl⟩:∃pl,pl=lq.length:=⟨_,rfl⟩
     have HPL2:=zh hpl
     have HPL:Hid (pl=j):=zh (by have:=congrArg List.length VV.out;simp at this;have:=HMQ.out;omega)
     have HTK:=zh (show(lq0.take (j+1)).map (·.v)=(lq0.take j).map (·.v)++[(⟨n,z,at_⟩:QV)]from by rw[List.take_add_one,HE.out,List.map_append];rfl)
     have hbF:Bn≤w0.heap.size:=Nat.le_trans hs6 hb0.size
     clear hpl
     refine tkH (i:=0) (oi:=⟨some 54,_,_,_,_,_⟩) (v:=.pointer (some ⟨Bn,3,none⟩)) rfl (Or.inl ⟨by rfl,fun W hW=>(by go_simp)⟩) (by assumption) ?_
     refine tkH (i:=2) (oi:=⟨some 56,_,_,_,_,_⟩) (v:=.pointer (some ⟨xb,0,none⟩)) rfl (Or.inl ⟨by rfl,fun W hW=>(by go_simp)⟩) (by assumption) ?_
     refine tkH (i:=3) (oi:=⟨some 57,_,_,_,_,_⟩) (v:=.slice A n c) rfl (Or.inl ⟨by rfl,fun W hW=>(by have u0:=HS.out W hW;go_simp)⟩) (by assumption) ?_
     refine wpAnyH_ready (rs:=[1,4]) (by kernel_rfl) (by simp) ?_
     refine AllReadyH.cons (o:=⟨some 55,_,_,_,_,_⟩) rfl (fun K hK=>?_) (AllReadyH.cons (o:=⟨some 58,_,_,_,_,_⟩) rfl (fun K hK=>?_) AllReadyH.nil)
     ·rw[if_pos (by rfl)]
      have h43:=T0.blk.cell 3
      simp at h43
      rw[←HPL2.out]at h43
      go_simp
      refine hK.out _ _ hHeld (fun hHeld=>?_)
      clear hK K h43
      try simp only[Act.put,List.setIfInBounds_toArray,List.set_cons_zero,List.set_cons_succ]
      refine wpAnyH_ready (rs:=[4]) (by kernel_rfl) (by simp) ?_
      refine AllReadyH.cons (o:=⟨some 58,_,_,_,_,_⟩) rfl (fun K hK=>?_) AllReadyH.nil
      rw[if_pos (by rfl)]
      go_simp
      refine(clone_un A n c z w0 (by omega) (R6.out.next hb0)).mono ?_
      rintro e w1' ⟨A2,c2',rfl,hc2,hR2,hF2,hbk,hUn⟩
      dsimp only
      have hFl:∀a,A2=some a→w0.heap.size≤a.block:=hF2
      have hFr:∀a,A2=some a→a.block < w1'.heap.size:=fun a e=>row_lt hR2 hp1 e
      have hwl1:∀j,W j→j < w0.heap.size:=fun j hj=>(T0.win j hj).2
      have hFB:∀a,A2=some a→Bn≤a.block:=fun a e=>by have:=hFl a e;have:=hb0.size;omega
      have T1:=T0.below hbk
      have hb1:Below W6.heap.size W6 w1':=hb0.trans (hbk.mono hb0.size)
      have hW2:∀j,W j→∀a,A2=some a→j ≠ a.block:=fun j hj a e=>by have:=hFl a e;have:=hwl1 j hj;omega
      refine hK.out _ _ (hHeld.more hbk) (fun hHeld=>?_)
      clear hK K hbk hF2
      try simp only[Act.put,List.setIfInBounds_toArray,List.set_cons_zero,List.set_cons_succ]
      refine wpAnyH_ready (rs:=[5]) (by kernel_rfl) (by simp) ?_
      refine AllReadyH.cons (o:=⟨some 59,_,_,_,_,_⟩) rfl (fun K hK=>?_) AllReadyH.nil
      rw[if_pos (by rfl)]
      go_simp
      obtain⟨w2',hv⟩:∃X,X=w1'.alloc (.cells #[.slice A2 n c2'] 46):=⟨_,rfl⟩
      obtain⟨nb,hnb⟩:∃nb,nb=w1'.heap.size:=⟨_,rfl⟩
      have hbk:Below w1'.heap.size w1' w2':=by rw[hv];exact(Below.refl _ _).alloc (Nat.le_refl _) _
      have hNB:Blk w2' nb 46 #[.slice A2 n c2']:=by rw[hv,hnb];exact Blk.new _ _ _
      have T2:=T1.below hbk
      have hb2:Below W6.heap.size W6 w2':=hb1.trans (hbk.mono hb1.size)
      replace hR2:=hR2.next hbk
      replace hUn:∀a,A2=some a→UnB w2' a.block:=fun a e=>(hUn a e).below hbk
      replace hFr:∀a,A2=some a→a.block < w2'.heap.size:=fun a e=>Nat.lt_of_lt_of_le (hFr a e) hbk.size
      rw[←hv,←hnb]
      refine hK.out _ _ (hHeld.more hbk) (fun hHeld=>?_)
      clear hK K hbk hv hnb
      try simp only[Act.put,List.setIfInBounds_toArray,List.set_cons_zero,List.set_cons_succ]
      refine wpAnyH_ready (rs:=[6]) (by kernel_rfl) (by simp) ?_
      refine AllReadyH.cons (o:=⟨some 60,_,_,_,_,_⟩) rfl (fun K hK=>?_) AllReadyH.nil
      rw[if_pos (by rfl)]
      have hSL:=T2.q
      rw[←HPL2.out]at hSL
      refine wp_sl_append _ _ _ _ rfl w2' 46 is (.slice none 0 0) 1 24 Tryz.underlying28 his hisz hiss hisb rfl qA pl qc (lq.flatMap WE.cc) rfl hSL _ rfl 1 [.slice A2 n c2'] (Src.ofSlice _ Tryz.underlying28 ⟨nb,0,none⟩ 1 1 _ rfl (fun j u hu=>by
        have hj:j < 1:=(List.getElem?_eq_some_iff.1 hu).1
        rw[Addr.add_lit,Nat.zero_add,hNB.cell j]
        simpa using hu) (by simp[Value.oneCell'])) (by decide) (by unfold maxLen;have:=HPL.out;have:=HM6.out;have:=HQ6.out;omega) (by have:=HPL.out;have:=HM6.out;have:=HQ6.out;omega) ?_
      intro A9 c9 wA hSL9 hK9 hA9
      dsimp only
      have hA9n:∀a,A9=some a→(∃a',qA=some a'∧a.block=a'.block)∨w2'.heap.size≤a.block:=hA9
      refine hK.out _ _ (hHeld.trans hK9 (fun j _ hj=>.inr hj)) (fun hHeld=>?_)
      clear hK K
      try simp only[Act.put,List.setIfInBounds_toArray,List.set_cons_zero,List.set_cons_succ]
      refine tkH (i:=7) (oi:=⟨some 61,_,_,_,_,_⟩) (v:=.pointer (some ⟨Bn,3,none⟩)) rfl (Or.inl ⟨by rfl,fun W hW=>(by go_simp)⟩) (by assumption) ?_
      refine wpAnyH_ready (rs:=[8]) (by kernel_rfl) (by simp) ?_
      refine AllReadyH.cons (o:=⟨none,_,_,_,_,_⟩) rfl (fun K hK=>?_) AllReadyH.nil
      rw[if_pos (by rfl)]
      have hg9:Blk wA Bn 30 _:=hK9.blk T2.blk (fun⟨a,ha,e⟩=>T2.gq a ha e)
      have hc43:=hg9.cell 3
      have hf43:=hg9.frozen 3
      simp at hc43
      have T9:=T2.moreR (R':=fun j=>R j∨∃a,A2=some a∧j=a.block) (fun j hj=>.inl hj) (fun j hw hr=>by rcases hr with hr | ⟨a,ha,e⟩;exact T2.dis j hw hr;exact hW2 j hw a ha e) (fun j hr=>by rcases hr with hr | ⟨a,ha,e⟩;exact T2.rin j hr;(rw[e];exact⟨hFB a ha,hFr a ha,hUn a ha⟩))
      have hpk9:∀e:WE,e∈lq++[(⟨⟨n,z,at_⟩,A2,c2'⟩:WE)]→Pkt wA (fun j=>R j∨∃a,A2=some a∧j=a.block) e.A e.v.n e.c e.v.z:=fun e he=>by
       have hx:Pkt w2' (fun j=>R j∨∃a,A2=some a∧j=a.block) e.A e.v.n e.c e.v.z:=by
        rcases List.mem_append.1 he with he | he
        ·exact T9.qe e he
        ·have:e=(⟨⟨n,z,at_⟩,A2,c2'⟩:WE):=by simpa using he
         rw[this]
         exact Pkt.of_clone hp1 hp9 hc2 HBY.out hR2
       exact hx.keep hK9 (fun j ⟨a,ha,e2⟩ hr=>T9.dis j (by rw[e2];exact T9.wq a ha) hr)
      have hlen9:(lq++[(⟨⟨n,z,at_⟩,A2,c2'⟩:WE)]).length=pl+1:=by rw[List.length_append,HPL2.out];rfl
      have hSL9':SL wA 46 1 A9 (lq++[(⟨⟨n,z,at_⟩,A2,c2'⟩:WE)]).length c9 ((lq++[(⟨⟨n,z,at_⟩,A2,c2'⟩:WE)]).flatMap WE.cc):=by
       rw[hlen9,List.flatMap_append]
       exact hSL9
      have TF:=T9.setQ hK9 hA9n hSL9' hpk9
      rw[hlen9]at TF
      have hbA:Below Bn w wA:=KeepF.below ((show Below Bn w W6 from B6.out).trans (hb2.mono hs6)) (hK9.mono (G:=W) (fun j ⟨a,ha,e2⟩=>by rw[e2];exact T2.wq a ha)) (fun j hj=>(T2.win j hj).1) (Nat.le_trans hs6 hb2.size)
      have HTF:=zh TF
      have HBF:=zh (show Below Bn w (wA.setCell ⟨Bn,3,none⟩ (.slice A9 (pl+1) c9))from hbA.setCell (p:=⟨Bn,3,none⟩) (Nat.le_refl _) _)
      have HVF:=zh (show(lq++[(⟨⟨n,z,at_⟩,A2,c2'⟩:WE)]).map (·.v)=(lq0.take (j+1)).map (·.v)from by rw[HTK.out,List.map_append,VV.out];rfl)
      have hS9:KeepF (fun j=>j=Bn∨∃a,qA=some a∧j=a.block) W6 (wA.setCell ⟨Bn,3,none⟩ (.slice A9 (pl+1) c9)):=hHeld.setCell (p:=⟨Bn,3,none⟩) (.inl rfl) _
      clear TF hSL9 hSL9' hpk9 hK9 hA9 hA9n T9 hg9 hSL hbA
      go_simp
      refine hK.out _ _ hS9 (fun hHeld=>?_)
      clear hK K hS9
      try simp only[Act.put]
      refine wpAnyH_done (by kernel_rfl) ?_ _
      go_wp2
      go_roundw
      case rel=>first | exact⟨j+1,_,_,_,_,_,by omega,by go_num,HTF.out,HVF.out,HBF.out⟩ | ((repeat apply Exists.intro);exact⟨⟨by omega,by go_num,HTF.out,HVF.out,HBF.out⟩,rfl⟩)
      case measure=>simp[intOf];omega
     ·rw[if_pos (by rfl)]
      go_simp
      refine(clone_un A n c z w0 (by omega) (R6.out.next hb0)).mono ?_
      rintro e w1' ⟨A2,c2',rfl,hc2,hR2,hF2,hbk,hUn⟩
      dsimp only
      have hFl:∀a,A2=some a→w0.heap.size≤a.block:=hF2
      have hFr:∀a,A2=some a→a.block < w1'.heap.size:=fun a e=>row_lt hR2 hp1 e
      have hwl1:∀j,W j→j < w0.heap.size:=fun j hj=>(T0.win j hj).2
      have hFB:∀a,A2=some a→Bn≤a.block:=fun a e=>by have:=hFl a e;have:=hb0.size;omega
      have T1:=T0.below hbk
      have hb1:Below W6.heap.size W6 w1':=hb0.trans (hbk.mono hb0.size)
      have hW2:∀j,W j→∀a,A2=some a→j ≠ a.block:=fun j hj a e=>by have:=hFl a e;have:=hwl1 j hj;omega
      refine hK.out _ _ (hHeld.more hbk) (fun hHeld=>?_)
      clear hK K hbk hF2
      try simp only[Act.put,List.setIfInBounds_toArray,List.set_cons_zero,List.set_cons_succ]
      refine wpAnyH_ready (rs:=[1,5]) (by kernel_rfl) (by simp) ?_
      refine AllReadyH.cons (o:=⟨some 55,_,_,_,_,_⟩) rfl (fun K hK=>?_) (AllReadyH.cons (o:=⟨some 59,_,_,_,_,_⟩) rfl (fun K hK=>?_) AllReadyH.nil)
      ·rw[if_pos (by rfl)]
       have h43:=T1.blk.cell 3
       simp at h43
       rw[←HPL2.out]at h43
       go_simp
       refine hK.out _ _ hHeld (fun hHeld=>?_)
       clear hK K h43
       try simp only[Act.put,List.setIfInBounds_toArray,List.set_cons_zero,List.set_cons_succ]
       refine wpAnyH_ready (rs:=[5]) (by kernel_rfl) (by simp) ?_
       refine AllReadyH.cons (o:=⟨some 59,_,_,_,_,_⟩) rfl (fun K hK=>?_) AllReadyH.nil
       rw[if_pos (by rfl)]
       go_simp
       obtain⟨w2',hv⟩:∃X,X=w1'.alloc (.cells #[.slice A2 n c2'] 46):=⟨_,rfl⟩
       obtain⟨nb,hnb⟩:∃nb,nb=w1'.heap.size:=⟨_,rfl⟩
       have hbk:Below w1'.heap.size w1' w2':=by rw[hv];exact(Below.refl _ _).alloc (Nat.le_refl _) _
       have hNB:Blk w2' nb 46 #[.slice A2 n c2']:=by rw[hv,hnb];exact Blk.new _ _ _
       have T2:=T1.below hbk
       have hb2:Below W6.heap.size W6 w2':=hb1.trans (hbk.mono hb1.size)
       replace hR2:=hR2.next hbk
       replace hUn:∀a,A2=some a→UnB w2' a.block:=fun a e=>(hUn a e).below hbk
       replace hFr:∀a,A2=some a→a.block < w2'.heap.size:=fun a e=>Nat.lt_of_lt_of_le (hFr a e) hbk.size
       rw[←hv,←hnb]
       refine hK.out _ _ (hHeld.more hbk) (fun hHeld=>?_)
       clear hK K hbk hv hnb
       try simp only[Act.put,List.setIfInBounds_toArray,List.set_cons_zero,List.set_cons_succ]
       refine wpAnyH_ready (rs:=[6]) (by kernel_rfl) (by simp) ?_
       refine AllReadyH.cons (o:=⟨some 60,_,_,_,_,_⟩) rfl (fun K hK=>?_) AllReadyH.nil
       rw[if_pos (by rfl)]
       have hSL:=T2.q
       rw[←HPL2.out]at hSL
       refine wp_sl_append _ _ _ _ rfl w2' 46 is (.slice none 0 0) 1 24 Tryz.underlying28 his hisz hiss hisb rfl qA pl qc (lq.flatMap WE.cc) rfl hSL _ rfl 1 [.slice A2 n c2'] (Src.ofSlice _ Tryz.underlying28 ⟨nb,0,none⟩ 1 1 _ rfl (fun j u hu=>by
         have hj:j < 1:=(List.getElem?_eq_some_iff.1 hu).1
         rw[Addr.add_lit,Nat.zero_add,hNB.cell j]
         simpa using hu) (by simp[Value.oneCell'])) (by decide) (by unfold maxLen;have:=HPL.out;have:=HM6.out;have:=HQ6.out;omega) (by have:=HPL.out;have:=HM6.out;have:=HQ6.out;omega) ?_
       intro A9 c9 wA hSL9 hK9 hA9
       dsimp only
       have hA9n:∀a,A9=some a→(∃a',qA=some a'∧a.block=a'.block)∨w2'.heap.size≤a.block:=hA9
       refine hK.out _ _ (hHeld.trans hK9 (fun j _ hj=>.inr hj)) (fun hHeld=>?_)
       clear hK K
       try simp only[Act.put,List.setIfInBounds_toArray,List.set_cons_zero,List.set_cons_succ]
       refine tkH (i:=7) (oi:=⟨some 61,_,_,_,_,_⟩) (v:=.pointer (some ⟨Bn,3,none⟩)) rfl (Or.inl ⟨by rfl,fun W hW=>(by go_simp)⟩) (by assumption) ?_
       refine wpAnyH_ready (rs:=[8]) (by kernel_rfl) (by simp) ?_
       refine AllReadyH.cons (o:=⟨none,_,_,_,_,_⟩) rfl (fun K hK=>?_) AllReadyH.nil
       rw[if_pos (by rfl)]
       have hg9:Blk wA Bn 30 _:=hK9.blk T2.blk (fun⟨a,ha,e⟩=>T2.gq a ha e)
       have hc43:=hg9.cell 3
       have hf43:=hg9.frozen 3
       simp at hc43
       have T9:=T2.moreR (R':=fun j=>R j∨∃a,A2=some a∧j=a.block) (fun j hj=>.inl hj) (fun j hw hr=>by rcases hr with hr | ⟨a,ha,e⟩;exact T2.dis j hw hr;exact hW2 j hw a ha e) (fun j hr=>by rcases hr with hr | ⟨a,ha,e⟩;exact T2.rin j hr;(rw[e];exact⟨hFB a ha,hFr a ha,hUn a ha⟩))
       have hpk9:∀e:WE,e∈lq++[(⟨⟨n,z,at_⟩,A2,c2'⟩:WE)]→Pkt wA (fun j=>R j∨∃a,A2=some a∧j=a.block) e.A e.v.n e.c e.v.z:=fun e he=>by
        have hx:Pkt w2' (fun j=>R j∨∃a,A2=some a∧j=a.block) e.A e.v.n e.c e.v.z:=by
         rcases List.mem_append.1 he with he | he
         ·exact T9.qe e he
         ·have:e=(⟨⟨n,z,at_⟩,A2,c2'⟩:WE):=by simpa using he
          rw[this]
          exact Pkt.of_clone hp1 hp9 hc2 HBY.out hR2
        exact hx.keep hK9 (fun j ⟨a,ha,e2⟩ hr=>T9.dis j (by rw[e2];exact T9.wq a ha) hr)
       have hlen9:(lq++[(⟨⟨n,z,at_⟩,A2,c2'⟩:WE)]).length=pl+1:=by rw[List.length_append,HPL2.out];rfl
       have hSL9':SL wA 46 1 A9 (lq++[(⟨⟨n,z,at_⟩,A2,c2'⟩:WE)]).length c9 ((lq++[(⟨⟨n,z,at_⟩,A2,c2'⟩:WE)]).flatMap WE.cc):=by
        rw[hlen9,List.flatMap_append]
        exact hSL9
       have TF:=T9.setQ hK9 hA9n hSL9' hpk9
       rw[hlen9]at TF
       have hbA:Below Bn w wA:=KeepF.below ((show Below Bn w W6 from B6.out).trans (hb2.mono hs6)) (hK9.mono (G:=W) (fun j ⟨a,ha,e2⟩=>by rw[e2];exact T2.wq a ha)) (fun j hj=>(T2.win j hj).1) (Nat.le_trans hs6 hb2.size)
       have HTF:=zh TF
       have HBF:=zh (show Below Bn w (wA.setCell ⟨Bn,3,none⟩ (.slice A9 (pl+1) c9))from hbA.setCell (p:=⟨Bn,3,none⟩) (Nat.le_refl _) _)
       have HVF:=zh (show(lq++[(⟨⟨n,z,at_⟩,A2,c2'⟩:WE)]).map (·.v)=(lq0.take (j+1)).map (·.v)from by rw[HTK.out,List.map_append,VV.out];rfl)
       have hS9:KeepF (fun j=>j=Bn∨∃a,qA=some a∧j=a.block) W6 (wA.setCell ⟨Bn,3,none⟩ (.slice A9 (pl+1) c9)):=hHeld.setCell (p:=⟨Bn,3,none⟩) (.inl rfl) _
       clear TF hSL9 hSL9' hpk9 hK9 hA9 hA9n T9 hg9 hSL hbA
       go_simp
       refine hK.out _ _ hS9 (fun hHeld=>?_)
       clear hK K hS9
       try simp only[Act.put]
       refine wpAnyH_done (by kernel_rfl) ?_ _
       go_wp2
       go_roundw
       case rel=>first | exact⟨j+1,_,_,_,_,_,by omega,by go_num,HTF.out,HVF.out,HBF.out⟩ | ((repeat apply Exists.intro);exact⟨⟨by omega,by go_num,HTF.out,HVF.out,HBF.out⟩,rfl⟩)
       case measure=>simp[intOf];omega
      ·rw[if_pos (by rfl)]
       go_simp
       obtain⟨w2',hv⟩:∃X,X=w1'.alloc (.cells #[.slice A2 n c2'] 46):=⟨_,rfl⟩
       obtain⟨nb,hnb⟩:∃nb,nb=w1'.heap.size:=⟨_,rfl⟩
       have hbk:Below w1'.heap.size w1' w2':=by rw[hv];exact(Below.refl _ _).alloc (Nat.le_refl _) _
       have hNB:Blk w2' nb 46 #[.slice A2 n c2']:=by rw[hv,hnb];exact Blk.new _ _ _
       have T2:=T1.below hbk
       have hb2:Below W6.heap.size W6 w2':=hb1.trans (hbk.mono hb1.size)
       replace hR2:=hR2.next hbk
       replace hUn:∀a,A2=some a→UnB w2' a.block:=fun a e=>(hUn a e).below hbk
       replace hFr:∀a,A2=some a→a.block < w2'.heap.size:=fun a e=>Nat.lt_of_lt_of_le (hFr a e) hbk.size
       rw[←hv,←hnb]
       refine hK.out _ _ (hHeld.more hbk) (fun hHeld=>?_)
       clear hK K hbk hv hnb
       try simp only[Act.put,List.setIfInBounds_toArray,List.set_cons_zero,List.set_cons_succ]
       refine wpAnyH_ready (rs:=[1]) (by kernel_rfl) (by simp) ?_
       refine AllReadyH.cons (o:=⟨some 55,_,_,_,_,_⟩) rfl (fun K hK=>?_) AllReadyH.nil
       rw[if_pos (by rfl)]
       have h43:=T2.blk.cell 3
       simp at h43
       rw[←HPL2.out]at h43
       go_simp
       refine hK.out _ _ hHeld (fun hHeld=>?_)
       clear hK K h43
       try simp only[Act.put,List.setIfInBounds_toArray,List.set_cons_zero,List.set_cons_succ]
       refine wpAnyH_ready (rs:=[6]) (by kernel_rfl) (by simp) ?_
       refine AllReadyH.cons (o:=⟨some 60,_,_,_,_,_⟩) rfl (fun K hK=>?_) AllReadyH.nil
       rw[if_pos (by rfl)]
       have hSL:=T2.q
       rw[←HPL2.out]at hSL
       refine wp_sl_append _ _ _ _ rfl w2' 46 is (.slice none 0 0) 1 24 Tryz.underlying28 his hisz hiss hisb rfl qA pl qc (lq.flatMap WE.cc) rfl hSL _ rfl 1 [.slice A2 n c2'] (Src.ofSlice _ Tryz.underlying28 ⟨nb,0,none⟩ 1 1 _ rfl (fun j u hu=>by
         have hj:j < 1:=(List.getElem?_eq_some_iff.1 hu).1
         rw[Addr.add_lit,Nat.zero_add,hNB.cell j]
         simpa using hu) (by simp[Value.oneCell'])) (by decide) (by unfold maxLen;have:=HPL.out;have:=HM6.out;have:=HQ6.out;omega) (by have:=HPL.out;have:=HM6.out;have:=HQ6.out;omega) ?_
       intro A9 c9 wA hSL9 hK9 hA9
       dsimp only
       have hA9n:∀a,A9=some a→(∃a',qA=some a'∧a.block=a'.block)∨w2'.heap.size≤a.block:=hA9
       refine hK.out _ _ (hHeld.trans hK9 (fun j _ hj=>.inr hj)) (fun hHeld=>?_)
       clear hK K
       try simp only[Act.put,List.setIfInBounds_toArray,List.set_cons_zero,List.set_cons_succ]
       refine tkH (i:=7) (oi:=⟨some 61,_,_,_,_,_⟩) (v:=.pointer (some ⟨Bn,3,none⟩)) rfl (Or.inl ⟨by rfl,fun W hW=>(by go_simp)⟩) (by assumption) ?_
       refine wpAnyH_ready (rs:=[8]) (by kernel_rfl) (by simp) ?_
       refine AllReadyH.cons (o:=⟨none,_,_,_,_,_⟩) rfl (fun K hK=>?_) AllReadyH.nil
       rw[if_pos (by rfl)]
       have hg9:Blk wA Bn 30 _:=hK9.blk T2.blk (fun⟨a,ha,e⟩=>T2.gq a ha e)
       have hc43:=hg9.cell 3
       have hf43:=hg9.frozen 3
       simp at hc43
       have T9:=T2.moreR (R':=fun j=>R j∨∃a,A2=some a∧j=a.block) (fun j hj=>.inl hj) (fun j hw hr=>by rcases hr with hr | ⟨a,ha,e⟩;exact T2.dis j hw hr;exact hW2 j hw a ha e) (fun j hr=>by rcases hr with hr | ⟨a,ha,e⟩;exact T2.rin j hr;(rw[e];exact⟨hFB a ha,hFr a ha,hUn a ha⟩))
       have hpk9:∀e:WE,e∈lq++[(⟨⟨n,z,at_⟩,A2,c2'⟩:WE)]→Pkt wA (fun j=>R j∨∃a,A2=some a∧j=a.block) e.A e.v.n e.c e.v.z:=fun e he=>by
        have hx:Pkt w2' (fun j=>R j∨∃a,A2=some a∧j=a.block) e.A e.v.n e.c e.v.z:=by
         rcases List.mem_append.1 he with he | he
         ·exact T9.qe e he
         ·have:e=(⟨⟨n,z,at_⟩,A2,c2'⟩:WE):=by simpa using he
          rw[this]
          exact Pkt.of_clone hp1 hp9 hc2 HBY.out hR2
        exact hx.keep hK9 (fun j ⟨a,ha,e2⟩ hr=>T9.dis j (by rw[e2];exact T9.wq a ha) hr)
       have hlen9:(lq++[(⟨⟨n,z,at_⟩,A2,c2'⟩:WE)]).length=pl+1:=by rw[List.length_append,HPL2.out];rfl
       have hSL9':SL wA 46 1 A9 (lq++[(⟨⟨n,z,at_⟩,A2,c2'⟩:WE)]).length c9 ((lq++[(⟨⟨n,z,at_⟩,A2,c2'⟩:WE)]).flatMap WE.cc):=by
        rw[hlen9,List.flatMap_append]
        exact hSL9
       have TF:=T9.setQ hK9 hA9n hSL9' hpk9
       rw[hlen9]at TF
       have hbA:Below Bn w wA:=KeepF.below ((show Below Bn w W6 from B6.out).trans (hb2.mono hs6)) (hK9.mono (G:=W) (fun j ⟨a,ha,e2⟩=>by rw[e2];exact T2.wq a ha)) (fun j hj=>(T2.win j hj).1) (Nat.le_trans hs6 hb2.size)
       have HTF:=zh TF
       have HBF:=zh (show Below Bn w (wA.setCell ⟨Bn,3,none⟩ (.slice A9 (pl+1) c9))from hbA.setCell (p:=⟨Bn,3,none⟩) (Nat.le_refl _) _)
       have HVF:=zh (show(lq++[(⟨⟨n,z,at_⟩,A2,c2'⟩:WE)]).map (·.v)=(lq0.take (j+1)).map (·.v)from by rw[HTK.out,List.map_append,VV.out];rfl)
       have hS9:KeepF (fun j=>j=Bn∨∃a,qA=some a∧j=a.block) W6 (wA.setCell ⟨Bn,3,none⟩ (.slice A9 (pl+1) c9)):=hHeld.setCell (p:=⟨Bn,3,none⟩) (.inl rfl) _
       clear TF hSL9 hSL9' hpk9 hK9 hA9 hA9n T9 hg9 hSL hbA
       go_simp
       refine hK.out _ _ hS9 (fun hHeld=>?_)
       clear hK K hS9
       try simp only[Act.put]
       refine wpAnyH_done (by kernel_rfl) ?_ _
       go_wp2
       go_roundw
       case rel=>first | exact⟨j+1,_,_,_,_,_,by omega,by go_num,HTF.out,HVF.out,HBF.out⟩ | ((repeat apply Exists.intro);exact⟨⟨by omega,by go_num,HTF.out,HVF.out,HBF.out⟩,rfl⟩)
       case measure=>simp[intOf];omega
    ·obtain rfl:j=mq:=by omega
     have hlq:lq.map (·.v)=s.Q:=by rw[VV.out,←TT.out.qv,HMQ.out,List.take_length]
     have HLQ:=zh hlq
     have x0:=FF.out.blk.cell 0
     have x1:=FF.out.blk.cell 1
     have x2:=FF.out.blk.cell 2
     have x3:=FF.out.blk.cell 3
     simp at x0 x1 x2 x3
     have f0:=FF.out.blk.frozen 0
     have f1:=FF.out.blk.frozen 1
     have f2:=FF.out.blk.frozen 2
     have f3:=FF.out.blk.frozen 3
     clear hlq
     go_wp2
     have hB:=((((FF.out.blk.set_ 0 (.int .u32 ny)).set_ 1 (.bool us)).set_ 2 (.slice pA lp.length pc)).set_ 3 (.slice qA lq.length qc))
     have hB':Blk ((((wr.setCell ⟨Bn,0,none⟩ (.int .u32 ny)).setCell ⟨Bn,1,none⟩ (.bool us)).setCell ⟨Bn,2,none⟩ (.slice pA lp.length pc)).setCell ⟨Bn,3,none⟩ (.slice qA lq.length qc)) Bn 30 #[.int .u32 ny,.bool us,.slice pA lp.length pc,.slice qA lq.length qc]:=by simpa using hB
     have HB:=zh hB'
     have hKF:KeepF (fun j=>j=Bn) wr ((((wr.setCell ⟨Bn,0,none⟩ (.int .u32 ny)).setCell ⟨Bn,1,none⟩ (.bool us)).setCell ⟨Bn,2,none⟩ (.slice pA lp.length pc)).setCell ⟨Bn,3,none⟩ (.slice qA lq.length qc)):=((((KeepF.refl (F:=fun j=>j=Bn)).setCell (p:=⟨Bn,0,none⟩) rfl _).setCell (p:=⟨Bn,1,none⟩) rfl _).setCell (p:=⟨Bn,2,none⟩) rfl _).setCell (p:=⟨Bn,3,none⟩) rfl _
     clear hB hB'
     refine bodyPost_ret (v:=.agg #[.int .u32 ny,.bool us,.slice pA lp.length pc,.slice qA lq.length qc]) ?_ ?_ ?_
     case refine_1=>exact results_cell_row (g:=Bn) (t:=30) (fr:=(0,0)) Tryz.results31 _ _ _ _ rfl HB.out Tryz.underlying30 rfl (by kernel_rfl)
     case refine_2=>rfl
     refine⟨pA,pc,lp,qA,qc,lq,by rw[HNY.out,HUS.out],?_,BB.out.mono (by rw[HBN.out];exact Nat.le_refl _) |>.trans ?_⟩
     ·rw[←HBN.out]
      have pk:∀{A:Option Addr} {n c:Nat} {z:Nat→Int},Pkt wr R A n c z→Pkt ((((wr.setCell ⟨Bn,0,none⟩ (.int .u32 ny)).setCell ⟨Bn,1,none⟩ (.bool us)).setCell ⟨Bn,2,none⟩ (.slice pA lp.length pc)).setCell ⟨Bn,3,none⟩ (.slice qA lq.length qc)) (fun k=>Bn≤k) A n c z:=fun hp=>(hp.keep hKF (fun k e hr=>FF.out.dis k (by rw[e];exact FF.out.wg) hr)).mono (fun k hr=>(FF.out.rin k hr).1)
      exact⟨HLV.out,HLQ.out,FF.out.p.keepF hKF (fun a e h2=>FF.out.gp a e h2.symm),FF.out.q.keepF hKF (fun a e h2=>FF.out.gq a e h2.symm),fun e he=>pk (FF.out.pe e he),fun e he=>pk (FF.out.qe e he),fun a e=>(FF.out.win _ (FF.out.wp a e)).1,fun a e=>(FF.out.win _ (FF.out.wq a e)).1,fun e he a ha=>(FF.out.rin _ ((FF.out.pe e he).ro a ha)).2.2.keepF hKF (fun e2=>FF.out.dis _ (by rw[e2];exact FF.out.wg) ((FF.out.pe e he).ro a ha)),fun e he a ha=>(FF.out.rin _ ((FF.out.qe e he).ro a ha)).2.2.keepF hKF (fun e2=>FF.out.dis _ (by rw[e2];exact FF.out.wg) ((FF.out.qe e he).ro a ha)),fun e he a a' h1 h2 hb=>FF.out.dis a.block (by rw[hb];rcases h2 with h2 | h2;exact FF.out.wp a' h2;exact FF.out.wq a' h2) ((FF.out.pe e he).ro a h1),fun e he a a' h1 h2 hb=>FF.out.dis a.block (by rw[hb];rcases h2 with h2 | h2;exact FF.out.wp a' h2;exact FF.out.wq a' h2) ((FF.out.qe e he).ro a h1)⟩
     ·exact(KeepF.below (Below.refl Bn wr) hKF (fun k e=>by omega) hbs).mono (by rw[HBN.out];exact Nat.le_refl _)
end Go.Proofs.YtjanmleoomoedaaGreat
namespace Go.Proofs.YtjanmleoomoedaaGreat
open Go.RowKit
set_option linter.unusedVariables false
attribute [local go_sem ↓] Go.wp_at_zero Go.wp_at_succ
def BW (w:World) (b o n:Nat):Prop:=∃cur t,Blk w b t cur∧∀j,j < n→∃x:Int,0≤x∧x < 256∧cur[o+j]? = some (.int .u8 x)
section
variable {w0 w w':World} {g:Nat} {s:TS} {N N':Nat→Prop}
theorem solon_nextU (h:SoloN w0 w g s N) (hf:s.Fine) (hcm:s.C.cm=false) (hpl:s.P.length≤1000000) (t:Int) (ht1:-9223372036854775808≤t) (ht2:t≤9223372036854775807) :
  Calls Tryz.prog 16 #[.pointer (some ⟨g,0,none⟩),.int .i64 t] w fun e w'=>∃A c,e=.returned (.tuple #[.slice A (s.send t).n c,.int .u32 (s.send t).ct,.int .i64 (s.send t).e])∧(s.send t).n≤c∧Row w' w'.heap.size A (s.send t).n (fun j=>.int .u8 (((s.send t).z j:Nat):Int))∧SoloN w0 w' g (s.send t).s (fun k=>N k∨blkOf A k)∧(∀k,N k→w'.heap[k]? = w.heap[k]?)∧∀a,A=some a→UnB w' a.block∧w.heap.size≤a.block:=by
 obtain⟨W,R,h1,h2,h3,h4⟩:=h
 refine(tNext_ok g s W R w h1 hf t ht1 ht2 (builds_any g s.C hf.ok hf.val hcm) hpl).mono ?_
 rintro e w' ⟨A,c,W',R',he,hc,hr,hI,hW,hR,hK,hA⟩
 have hs:=h3.size
 refine⟨A,c,he,hc,hr,⟨W',R',hI,fun k hk=>?_,KeepF.below h3 hK (fun k hk=>h2 k hk) hs,fun k hk=>?_⟩,fun k hk=>hK.block k (h4 k hk).2.1 (h4 k hk).2.2.1,fun a e=>⟨(hA a e).2.2.2,(hA a e).1⟩⟩
 ·rcases hW k hk with h | h
  ·exact h2 k h
  ·omega
 ·rcases hk with hk | ⟨a,ha,e⟩
  ·have h5:=h4 k hk
   refine⟨h5.1,Nat.lt_of_lt_of_le h5.2.1 hK.size,fun hw=>?_,fun hr=>?_⟩
   ·rcases hW k hw with h | h
    ·exact h5.2.2.1 h
    ·omega
   ·rcases hR k hr with h | h
    ·exact h5.2.2.2 h
    ·omega
  ·subst e
   have:=hA a ha
   exact⟨by omega,UnB.lt this.2.2.2,this.2.1,this.2.2.1⟩
end
section
variable {c:Cfg} {n:Nat} {z:Nat→Int}
end
end Go.Proofs.YtjanmleoomoedaaGreat
namespace Go.Proofs.YtjanmleoomoedaaGreat
open Go.RowKit
set_option linter.unusedVariables false
attribute [local go_sem ↓] Go.wp_at_zero Go.wp_at_succ
structure XW (w0 w:World) (g:Nat) (s:TS) (fb pc qc n lb lo pb po cp mb mo qb qo cq:Nat):Prop where
 so:SoloN w0 w g s (fun k=>k=pb∨k=qb)
 fo:Blk w fb 30 #[.int .u32 1,.bool false,.slice (some ⟨lb,lo,none⟩) 1 pc,.slice (some ⟨mb,mo,none⟩) 1 qc]
 p1:w.cell? ⟨lb,lo+1,none⟩=some (.slice (some ⟨pb,po,none⟩) n cp)
 q0:w.cell? ⟨mb,mo,none⟩=some (.slice (some ⟨qb,qo,none⟩) n cq)
 pw:BW w pb po n
 qw:BW w qb qo n
 ne:pb ≠ lb∧pb ≠ mb∧qb ≠ lb∧qb ≠ mb∧pb ≠ fb∧qb ≠ fb
 lt:lb < w.heap.size∧mb < w.heap.size
end Go.Proofs.YtjanmleoomoedaaGreat
