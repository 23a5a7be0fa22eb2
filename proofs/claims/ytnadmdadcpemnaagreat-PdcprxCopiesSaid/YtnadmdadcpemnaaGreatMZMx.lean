import Derived.Test.YtnadmdadcpemnaaGreatMZAx
import Derived.Test.YtnadmdadcpemnaaGreatCGx
import Derived.Test.YtnadmdadcpemnaaGreatMCFx
import Derived.Test.YtnadmdadcpemnaaGreatMDQx
import Derived.Lib.SlBytesConst
namespace Go.Proofs.YtnadmdadcpemnaaGreat
open Go.RowKit
set_option linter.unusedVariables false
attribute [local go_sem ↓] Go.wp_at_zero Go.wp_at_succ
def CE2 (w:World) (A:Option Addr) (k:Nat) (ct:Int) (n:Nat) (z:Nat→Int):Prop:=
 ∃lb lo PA pc,A=some ⟨lb,lo,none⟩∧lb < w.heap.size∧w.cell? ⟨lb,lo+k*2,none⟩=some (.int .u32 ct)∧w.cell? ⟨lb,lo+k*2+1,none⟩=some (.slice PA n pc)∧Row w w.heap.size PA n (fun j=>.int .u8 (z j))
def BE2 (w:World) (A:Option Addr) (k:Nat) (n:Nat) (z:Nat→Int):Prop:=
 ∃lb lo PA pc,A=some ⟨lb,lo,none⟩∧lb < w.heap.size∧w.cell? ⟨lb,lo+k,none⟩=some (.slice PA n pc)∧Row w w.heap.size PA n (fun j=>.int .u8 (z j))
theorem CE2.below {w w':World} {A:Option Addr} {k:Nat} {ct:Int} {n:Nat} {z:Nat→Int} (h:CE2 w A k ct n z) (hb:Below w.heap.size w w'):CE2 w' A k ct n z:=by
 obtain⟨lb,lo,PA,pc,h1,h2,h3,h4,h5⟩:=h
 exact⟨lb,lo,PA,pc,h1,Nat.lt_of_lt_of_le h2 hb.size,(hb.cell (p:=⟨lb,lo+k*2,none⟩) h2).trans h3,(hb.cell (p:=⟨lb,lo+k*2+1,none⟩) h2).trans h4,h5.next hb⟩
theorem BE2.below {w w':World} {A:Option Addr} {k:Nat} {n:Nat} {z:Nat→Int} (h:BE2 w A k n z) (hb:Below w.heap.size w w'):BE2 w' A k n z:=by
 obtain⟨lb,lo,PA,pc,h1,h2,h3,h5⟩:=h
 exact⟨lb,lo,PA,pc,h1,Nat.lt_of_lt_of_le h2 hb.size,(hb.cell (p:=⟨lb,lo+k,none⟩) h2).trans h3,h5.next hb⟩
def SameC (w:World) (A A':Option Addr) (m:Nat):Prop:=∀k,k < m→∃ct n z z',CE2 w A k ct n z∧CE2 w A' k ct n z'∧∀j,j < n→z j=z' j
def SameB (w:World) (A A':Option Addr) (m:Nat):Prop:=∀k,k < m→∃n z z',BE2 w A k n z∧BE2 w A' k n z'∧∀j,j < n→z j=z' j
theorem SameC.below {w w':World} {A A':Option Addr} {m:Nat} (h:SameC w A A' m) (hb:Below w.heap.size w w'):SameC w' A A' m:=fun k hk=>by
 obtain⟨ct,n,z,z',h1,h2,h3⟩:=h k hk
 exact⟨ct,n,z,z',h1.below hb,h2.below hb,h3⟩
theorem SameB.below {w w':World} {A A':Option Addr} {m:Nat} (h:SameB w A A' m) (hb:Below w.heap.size w w'):SameB w' A A' m:=fun k hk=>by
 obtain⟨n,z,z',h1,h2,h3⟩:=h k hk
 exact⟨n,z,z',h1.below hb,h2.below hb,h3⟩
set_option maxRecDepth 100000 in
set_option maxHeartbeats 1600000 in
theorem samec_true (A A':Option Addr) (m c c':Nat) (w:World) (hm:m≤maxLen) (h:SameC w A A' m) :
  Calls Tryz.prog 42 #[.slice A m c,.slice A' m c'] w fun e w'=>e=.returned (.bool true)∧Below w.heap.size w w':=by
 unfold maxLen at hm
 have HS:=Lib.hid h
 have hm':(m:Int)≤9223372036854775807:=by omega
 clear h
 go_enter Tryz.func42,Tryz.ntmps42
 go_wp2
 go_loopw [5] (fun v wr=>∃k:Nat,k≤m∧v=.int .i64 k∧Below w.heap.size w wr) (fun v _=>m-(intOf v).toNat)
 case atStart=>exact⟨0,by omega,rfl,Below.refl _ _⟩
 case round=>
  obtain⟨k,hk,rfl,hb⟩:=hrel
  by_cases hlt:k < m
  ·obtain⟨ct,n,z,z',⟨lb,lo,PA,pc,rfl,h2,h3,h4,h5⟩,⟨lb',lo',PA',pc',rfl,k2,k3,k4,k5⟩,he⟩:=(HS.out.below hb) k hlt
   have s1:=fun q=>row_string (P:=Tryz.prog) (w:=wr.drewN q) 35 9 5 Tryz.underlying35 Tryz.underlying5 Tryz.underlying9 (show Row (wr.drewN q) wr.heap.size PA n (fun j=>.int .u8 (z j))from h5) pc
   have s2:=fun q=>row_string (P:=Tryz.prog) (w:=wr.drewN q) 35 9 5 Tryz.underlying35 Tryz.underlying5 Tryz.underlying9 (show Row (wr.drewN q) wr.heap.size PA' n (fun j=>.int .u8 (z' j))from k5) pc'
   rw[←bytesOf_congr he]at s2
   have BB:=Lib.hid hb
   have k0:(0:Int)≤(k:Int):=by omega
   have k1:(k:Int) < (m:Int):=by omega
   clear h5 k5 he hb
   go_upto_region 6 with (fail)
   have hg:(ct != ct)=false:=by simp
   go_quiet (fail)
   go_wp2
   go_roundw
   case rel=>exact⟨k+1,by omega,by go_num,below_drewN BB.out _⟩
   case measure=>simp[intOf];omega
  ·obtain rfl:k=m:=by omega
   have BB:=Lib.hid hb
   clear hb
   go_wp2
   go_ret
   exact⟨rfl,BB.out⟩
set_option maxRecDepth 100000 in
set_option maxHeartbeats 1600000 in
theorem samel_true (A A':Option Addr) (m c c':Nat) (w:World) (hm:m≤maxLen) (h:SameB w A A' m) :
  Calls Tryz.prog 14 #[.slice A m c,.slice A' m c'] w fun e w'=>e=.returned (.bool true)∧Below w.heap.size w w':=by
 unfold maxLen at hm
 have HS:=Lib.hid h
 have hm':(m:Int)≤9223372036854775807:=by omega
 clear h
 go_enter Tryz.func14,Tryz.ntmps14
 go_wp2
 go_loopw [5] (fun v wr=>∃k:Nat,k≤m∧v=.int .i64 k∧Below w.heap.size w wr) (fun v _=>m-(intOf v).toNat)
 case atStart=>exact⟨0,by omega,rfl,Below.refl _ _⟩
 case round=>
  obtain⟨k,hk,rfl,hb⟩:=hrel
  by_cases hlt:k < m
  ·obtain⟨n,z,z',⟨lb,lo,PA,pc,rfl,h2,h3,h5⟩,⟨lb',lo',PA',pc',rfl,k2,k3,k5⟩,he⟩:=(HS.out.below hb) k hlt
   have s1:=fun q=>row_string (P:=Tryz.prog) (w:=wr.drewN q) 35 9 5 Tryz.underlying35 Tryz.underlying5 Tryz.underlying9 (show Row (wr.drewN q) wr.heap.size PA n (fun j=>.int .u8 (z j))from h5) pc
   have s2:=fun q=>row_string (P:=Tryz.prog) (w:=wr.drewN q) 35 9 5 Tryz.underlying35 Tryz.underlying5 Tryz.underlying9 (show Row (wr.drewN q) wr.heap.size PA' n (fun j=>.int .u8 (z' j))from k5) pc'
   rw[←bytesOf_congr he]at s2
   have BB:=Lib.hid hb
   have k0:(0:Int)≤(k:Int):=by omega
   have k1:(k:Int) < (m:Int):=by omega
   clear h5 k5 he hb
   go_upto_region 6 with (fail)
   go_quiet (fail)
   go_wp2
   go_roundw
   case rel=>exact⟨k+1,by omega,by go_num,below_drewN BB.out _⟩
   case measure=>simp[intOf];omega
  ·obtain rfl:k=m:=by omega
   have BB:=Lib.hid hb
   clear hb
   go_wp2
   go_ret
   exact⟨rfl,BB.out⟩
end Go.Proofs.YtnadmdadcpemnaaGreat
namespace Go.Proofs.YtnadmdadcpemnaaGreat
open Go.RowKit
set_option linter.unusedVariables false
attribute [local go_sem ↓] Go.wp_at_zero Go.wp_at_succ
theorem same46_true (d nx:Int) (A A':Option Addr) (m c c':Nat) (w:World) (hm:m≤maxLen) (h:SameC w A A' m):Calls Tryz.prog 18 #[.agg #[.int .u64 d,.int .u64 nx,.slice A m c],.agg #[.int .u64 d,.int .u64 nx,.slice A' m c']] w fun e w'=>e=.returned (.bool true)∧Below w.heap.size w w':=by
 have HC:=Lib.hid (fun(V:World) (hb:Below w.heap.size w V)=>samec_true A A' m c c' V hm (h.below hb))
 clear h hm
 go_enter Tryz.func18,Tryz.ntmps18
 go_upto_region 1 with (fail)
 refine wp_let (fun V=>Blk V w.heap.size 46 #[.int .u64 d,.int .u64 nx,.slice A m c]∧Blk V (w.heap.size+1) 46 #[.int .u64 d,.int .u64 nx,.slice A' m c']∧Below w.heap.size w V) ⟨(Blk.new _ _ _).alloc _,blk_atZ _ _ _ _ (by simp),((Below.refl _ w).alloc (Nat.le_refl _) _).alloc (by simp) _⟩ ?_
 rintro W1 ⟨b1,b2,b3⟩
 have B3:=Lib.hid b3
 have x0:=b1.cell 0
 have x1:=b1.cell 1
 have x2:=b1.cell 2
 have y0:=b2.cell 0
 have y1:=b2.cell 1
 have y2:=b2.cell 2
 simp at x0 x1 x2 y0 y1 y2
 clear b1 b2 b3
 go_wp2_with (go_at_call 42;refine(HC.out _ B3.out).mono ?_;rintro e w2 ⟨rfl,hb⟩;have B4:=Lib.hid (B3.out.trans (hb.mono B3.out.size));clear hb)
 go_ret
 exact⟨rfl,B4.out⟩
end Go.Proofs.YtnadmdadcpemnaaGreat
namespace Go.Proofs.YtnadmdadcpemnaaGreat
open Go.RowKit
set_option linter.unusedVariables false
set_option linter.unusedSimpArgs false
def CntL (w:World) (A:Option Addr) (vs:List SV):Prop:=∀k v,vs[k]? = some v→CE2 w A k v.ct v.n v.z
theorem CntL.below {w w':World} {A:Option Addr} {vs:List SV} (h:CntL w A vs) (hb:Below w.heap.size w w'):CntL w' A vs:=fun k v hv=>(h k v hv).below hb
theorem cntL_sl {w:World} {A:Option Addr} {n c:Nat} {lx:List SE} (h:SL w 77 2 A n c (lx.flatMap SE.cc)) (hn:n=lx.length) (hp:∀x,x∈lx→SL w 5 1 x.A x.v.n x.c x.v.bytes):CntL w A (lx.map (·.v)):=fun k v hv=>by
 rw[List.getElem?_map]at hv
 cases hx:lx[k]? with
 | none=>rw[hx]at hv;cases hv
 | some x=>
  rw[hx]at hv
  obtain rfl:x.v=v:=by simpa using hv
  have hk:k < lx.length:=(List.getElem?_eq_some_iff.1 hx).1
  obtain⟨b,o,hA,hb⟩:=h.some_ (by omega)
  have c0:=h.cell hA (j:=k*2+0) (by omega)
  have c1:=h.cell hA (j:=k*2+1) (by omega)
  rw[flat_at SE.cc 2 SE.cclen lx k _ x hx (by omega)]at c0 c1
  exact⟨b,o,x.A,x.c,hA,hb,c0,c1,(hp x (List.mem_of_getElem? hx)).rowOf (fun j hj=>by unfold SV.bytes;rw[List.getElem?_map,List.getElem?_range hj];rfl)⟩
theorem sameC_L {w:World} {A A':Option Addr} {vs:List SV} (h:CntL w A vs) (h':CntL w A' vs):SameC w A A' vs.length:=fun k hk=>
 have e:vs[k]? = some vs[k]:=List.getElem?_eq_getElem hk
 ⟨_,_,_,_,h k _ e,h' k _ e,fun j hj=>rfl⟩
structure RFine (s:RS):Prop where
 ok:s.C.Ok
 val:s.C.Valid
 cm:s.C.cm=false
 few:s.L.length≤250
 dup:s.dup < 4611686018427387903
section
variable {w0 w w':World} {g:Nat} {s s':RS} {N N':Nat→Prop}
def SoE (s:RS) (w:World) (e:Ending) (w':World):Prop:=
 ∃(A:Option Addr) (c:Nat),e=.returned (.agg #[.int .u64 s.deliver,.int .u64 s.next,.slice A s.L.length c])∧s.L.length≤c∧CntL w' A s.L∧Below w.heap.size w w'
end
theorem same46_L (d nx:Int) (A A':Option Addr) (m c c':Nat) (vs:List SV) (w:World) (hm:m=vs.length) (hl:m≤maxLen) (h:CntL w A vs) (h':CntL w A' vs):Calls Tryz.prog 18 #[.agg #[.int .u64 d,.int .u64 nx,.slice A m c],.agg #[.int .u64 d,.int .u64 nx,.slice A' m c']] w fun e w'=>e=.returned (.bool true)∧Below w.heap.size w w':=
 same46_true d nx A A' m c c' w hl (by rw[hm];exact sameC_L h h')
end Go.Proofs.YtnadmdadcpemnaaGreat
namespace Go.Proofs.YtnadmdadcpemnaaGreat
open Go.RowKit
set_option linter.unusedVariables false
set_option linter.unusedSimpArgs false
attribute [local go_sem ↓] Go.wp_at_zero Go.wp_at_succ
set_option maxRecDepth 100000 in
set_option maxHeartbeats 6400000 in
theorem rresume_bad (cf:Cfg) (A:Option Addr) (m c:Nat) (d nx:Int) (ct:Nat→Int) (PA:Nat→Option Addr) (pn pc:Nat→Nat) (z:Nat→Nat→Int) (w:World) (hd:0≤d) (hnx:0≤nx∧nx < 18446744073709551616) (hd2:d < 18446744073709551616) (hm:m≤maxLen) (h:Cnts w A m ct PA pn pc z) (hw:¬(cf.Valid∧Whole d nx m ct pn)) :
  Calls Tryz.prog 16 #[.agg cf.arr,.agg #[.int .u64 d,.int .u64 nx,.slice A m c]] w fun e w'=>e=.returned (.tuple #[.pointer none,.int .i64 2])∧Below w.heap.size w w':=by
 have HV:=Lib.hid (fun W=>rvalid_ok cf W)
 have HW:=Lib.hid (fun(hnw:¬Whole d nx m ct pn) W (hW:Cnts W A m ct PA pn pc z)=>whole_no A m c d nx ct PA pn pc z W hd hnx hd2 hm hW hnw)
 have HC:=Lib.hid h
 have HS:Hid ((Tryz.prog.info? 25).map (·.size)=some cf.arr.size):=Lib.hid (by rw[cf.arr_size];exact infoPd)
 obtain⟨Z,hZ⟩:∃Z,Z=cf.arr:=⟨_,rfl⟩
 rw[←hZ]at HV HS ⊢
 have HU:=Lib.hid Tryz.underlying25
 clear h hZ
 go_enter Tryz.func16,Tryz.ntmps16
 go_upto_region 1 with (fail)
 refine wp_let (fun W=>Blk W w.heap.size 25 Z∧Blk W (w.heap.size+1) 46 #[.int .u64 d,.int .u64 nx,.slice A m c]∧Below w.heap.size w W) ⟨(Blk.new _ _ _).alloc _,blk_atZ _ _ _ _ (by simp),((Below.refl _ w).alloc (Nat.le_refl _) _).alloc (by simp) _⟩ ?_
 rintro W1 ⟨b1,b2,b3⟩
 have B1:=Lib.hid b1
 have B2:=Lib.hid b2
 have B3:=Lib.hid b3
 clear b1 b2 b3
 by_cases hv:cf.Valid
 ·rw[decide_eq_true hv]at HV
  have HN:=Lib.hid (fun W hW=>HW.out (fun h=>hw ⟨hv,h⟩) W hW)
  clear hv hw
  go_wp2_with (first
   | (refine wpList_load_row rfl _ _ rfl w.heap.size rfl 25 Z (0,0) _ B1.out HU.out rfl HS.out ?_)
   | (go_at_call 38;refine(HV.out _).mono ?_;rintro e w2 ⟨rfl,hB⟩;have D2:=Lib.hid (B3.out.trans (hB.mono B3.out.size));have x0:=(B2.out.below hB B2.out.lt).cell 0;have x1:=(B2.out.below hB B2.out.lt).cell 1;have x2:=(B2.out.below hB B2.out.lt).cell 2;simp at x0 x1 x2;clear hB)
   | (go_at_call 39;refine(HN.out _ (HC.out.below D2.out)).mono ?_;rintro e w3 ⟨rfl,hB⟩;have D3:=Lib.hid (D2.out.trans (hB.mono D2.out.size));clear hB))
  go_ret2
  exact⟨rfl,D3.out⟩
 ·rw[decide_eq_false hv]at HV
  clear hv hw
  go_wp2_with (first
   | (refine wpList_load_row rfl _ _ rfl w.heap.size rfl 25 Z (0,0) _ B1.out HU.out rfl HS.out ?_)
   | (go_at_call 38;refine(HV.out _).mono ?_;rintro e w2 ⟨rfl,hB⟩;have D2:=Lib.hid (B3.out.trans (hB.mono B3.out.size));clear hB))
  go_ret2
  exact⟨rfl,D2.out⟩
end Go.Proofs.YtnadmdadcpemnaaGreat
