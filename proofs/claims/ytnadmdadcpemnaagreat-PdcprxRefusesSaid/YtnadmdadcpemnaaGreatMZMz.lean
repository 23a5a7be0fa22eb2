import Derived.Test.YtnadmdadcpemnaaGreatMZAz
import Derived.Test.YtnadmdadcpemnaaGreatCGz
import Derived.Test.YtnadmdadcpemnaaGreatCEz
import Derived.Test.YtnadmdadcpemnaaGreatMCFz
import Derived.Test.YtnadmdadcpemnaaGreatMDQz
import Derived.Test.YtnadmdadcpemnaaGreatMDXz
import Derived.Lib.SlBytesConst
namespace Go.Proofs.YtnadmdadcpemnaaGreat
open Go.RowKit
set_option linter.unusedVariables false
attribute [local go_sem ↓] Go.wp_at_zero Go.wp_at_succ
def CE2 (w:World) (A:Option Addr) (k:Nat) (ct:Int) (n:Nat) (z:Nat→Int):Prop:=
 ∃lb lo PA pc,A=some ⟨lb,lo,none⟩∧lb < w.heap.size∧w.cell? ⟨lb,lo+k*2,none⟩=some (.int .u32 ct)∧w.cell? ⟨lb,lo+k*2+1,none⟩=some (.slice PA n pc)∧Row w w.heap.size PA n (fun j=>.int .u8 (z j))
theorem CE2.below {w w':World} {A:Option Addr} {k:Nat} {ct:Int} {n:Nat} {z:Nat→Int} (h:CE2 w A k ct n z) (hb:Below w.heap.size w w'):CE2 w' A k ct n z:=by
 obtain⟨lb,lo,PA,pc,h1,h2,h3,h4,h5⟩:=h
 exact⟨lb,lo,PA,pc,h1,Nat.lt_of_lt_of_le h2 hb.size,(hb.cell (p:=⟨lb,lo+k*2,none⟩) h2).trans h3,(hb.cell (p:=⟨lb,lo+k*2+1,none⟩) h2).trans h4,h5.next hb⟩
def SameC (w:World) (A A':Option Addr) (m:Nat):Prop:=∀k,k < m→∃ct n z z',CE2 w A k ct n z∧CE2 w A' k ct n z'∧∀j,j < n→z j=z' j
theorem SameC.below {w w':World} {A A':Option Addr} {m:Nat} (h:SameC w A A' m) (hb:Below w.heap.size w w'):SameC w' A A' m:=fun k hk=>by
 obtain⟨ct,n,z,z',h1,h2,h3⟩:=h k hk
 exact⟨ct,n,z,z',h1.below hb,h2.below hb,h3⟩
set_option maxRecDepth 100000 in
set_option maxHeartbeats 1600000 in
theorem samec_true (A A':Option Addr) (m c c':Nat) (w:World) (hm:m≤maxLen) (h:SameC w A A' m) :
  Calls Tryz.prog 42 #[.slice A m c,.slice A' m c'] w fun e w'=>e=.returned (.bool true)∧Below w.heap.size w w':=by
 unfold maxLen at hm
 have HS:=Lib.hid h
 have hm':(m:Int)≤9223372036854775807:=by omega
 clear h
 go_enter Tryz.func42,Tryz.ntmps42
 go_wp2
 go_loopw [5] (fun v wr=>∃k:Nat,k≤m∧v=.int .i64 k∧Below w.heap.size w wr) (fun v _=>m-(intOf v).toNat)
 case atStart=>exact⟨0,by omega,rfl,Below.refl _ _⟩
 case round=>
  obtain⟨k,hk,rfl,hb⟩:=hrel
  by_cases hlt:k < m
  ·obtain⟨ct,n,z,z',⟨lb,lo,PA,pc,rfl,h2,h3,h4,h5⟩,⟨lb',lo',PA',pc',rfl,k2,k3,k4,k5⟩,he⟩:=(HS.out.below hb) k hlt
   have s1:=fun q=>row_string (P:=Tryz.prog) (w:=wr.drewN q) 35 9 5 Tryz.underlying35 Tryz.underlying5 Tryz.underlying9 (show Row (wr.drewN q) wr.heap.size PA n (fun j=>.int .u8 (z j))from h5) pc
   have s2:=fun q=>row_string (P:=Tryz.prog) (w:=wr.drewN q) 35 9 5 Tryz.underlying35 Tryz.underlying5 Tryz.underlying9 (show Row (wr.drewN q) wr.heap.size PA' n (fun j=>.int .u8 (z' j))from k5) pc'
   rw[←bytesOf_congr he]at s2
   have BB:=Lib.hid hb
   have k0:(0:Int)≤(k:Int):=by omega
   have k1:(k:Int) < (m:Int):=by omega
   clear h5 k5 he hb
   go_upto_region 6 with (fail)
   have hg:(ct != ct)=false:=by simp
   go_quiet (fail)
   go_wp2
   go_roundw
   case rel=>exact⟨k+1,by omega,by go_num,below_drewN BB.out _⟩
   case measure=>simp[intOf];omega
  ·obtain rfl:k=m:=by omega
   have BB:=Lib.hid hb
   clear hb
   go_wp2
   go_ret
   exact⟨rfl,BB.out⟩
end Go.Proofs.YtnadmdadcpemnaaGreat
namespace Go.Proofs.YtnadmdadcpemnaaGreat
open Go.RowKit
set_option linter.unusedVariables false
attribute [local go_sem ↓] Go.wp_at_zero Go.wp_at_succ
def tot46 (f:Nat→Nat):Nat→Int
 | 0=>0
 | k+1=>wrap64 (tot46 f k+(f k:Int))
def small46 (m:Nat) (pn:Nat→Nat):Bool:=decide (m≤40∧tot46 pn m≤9100)
set_option maxRecDepth 100000 in
set_option maxHeartbeats 3200000 in
theorem small46_ok (d nx:Int) (A:Option Addr) (m c1:Nat) (ct:Nat→Int) (PA:Nat→Option Addr) (pn pc:Nat→Nat) (z:Nat→Nat→Int) (w:World) (hm:m≤maxLen) (h:Cnts w A m ct PA pn pc z) :
  Calls Tryz.prog 15 #[.agg #[.int .u64 d,.int .u64 nx,.slice A m c1]] w fun e w'=>e=.returned (.bool (small46 m pn))∧Below w.heap.size w w':=by
 unfold maxLen at hm
 have HC:=Lib.hid h
 clear h
 have hm':(m:Int)≤9223372036854775807:=by omega
 go_enter Tryz.func15,Tryz.ntmps15
 go_upto_region 1 with (fail)
 refine wp_let (fun V=>Blk V w.heap.size 46 #[.int .u64 d,.int .u64 nx,.slice A m c1]∧Below w.heap.size w V) ⟨Blk.new _ _ _,(Below.refl _ w).alloc (Nat.le_refl _) _⟩ ?_
 rintro w1 ⟨b1,b2⟩
 obtain⟨fb,hfb⟩:∃fb,fb=w.heap.size:=⟨_,rfl⟩
 rw[←hfb]at b1
 rw[show(Value.pointer (some ⟨w.heap.size,0,none⟩))=.pointer (some ⟨fb,0,none⟩) by rw[hfb]]
 have x2:=b1.cell 2
 simp at x2
 have B1:=Lib.hid b2
 have HC1:=Lib.hid (HC.out.below b2)
 have HFB:=Lib.hid hfb
 clear b1 b2 hfb
 go_wp2
 go_loop [3,4] (fun v u=>∃k:Nat,k≤50∧k≤m∧u=.int .i64 k∧v=.int .i64 (tot46 pn k)) (fun _ u=>51-(intOf u).toNat)
 case atStart=>exact⟨0,by omega,by omega,rfl,rfl⟩
 case round=>
  obtain⟨k,hk50,hk,rfl,rfl⟩:=hrel
  have HTT:=Lib.hid (show tot46 pn (k+1)=wrap64 (tot46 pn k+(pn k:Int))from rfl)
  obtain⟨t,ht⟩:∃t,t=tot46 pn k:=⟨_,rfl⟩
  rw[←ht]
  rw[←ht]at HTT
  have HT0:=Lib.hid ht
  have k0:(0:Int)≤(k:Int):=by omega
  clear ht
  by_cases hlt:k < m∧k < 50
  ·obtain⟨hl1,hl2⟩:=hlt
   obtain⟨lb,lo,rfl,hlb,hlc⟩:=HC1.out.at_ (by omega)
   obtain⟨_,q1⟩:=hlc k hl1
   have k1:(k:Int) < (m:Int):=by omega
   have k2:(k:Int) < 50:=by omega
   clear hlc
   go_wp2
   go_round
   case rel=>exact⟨k+1,by omega,by omega,by go_num,by rw[HTT.out]⟩
   case measure=>simp[intOf];omega
  ·by_cases hlm:k < m
   ·have k1:(k:Int) < (m:Int):=by omega
    have k2:¬(k:Int) < 50:=by omega
    have g1:¬(m:Int)≤40:=by omega
    go_wp2
    go_ret
    exact⟨ret_bool (by unfold small46;rw[eq_comm,decide_eq_false_iff_not];omega),B1.out⟩
   ·have hke:k=m:=by omega
    have k1:¬(k:Int) < (m:Int):=by omega
    have HK:=Lib.hid hke
    clear hke hlt
    by_cases g1:(m:Int)≤40
    ·go_wp2
     go_ret
     exact⟨ret_bool (by
      unfold small46
      rw[←HK.out,←HT0.out]
      exact decide_eq_decide.2 ⟨fun h=>⟨by have:=HK.out;omega,h⟩,fun h=>h.2⟩),B1.out⟩
    ·go_wp2
     go_ret
     exact⟨ret_bool (by unfold small46;rw[eq_comm,decide_eq_false_iff_not];omega),B1.out⟩
theorem same46_true (d nx:Int) (A A':Option Addr) (m c c':Nat) (w:World) (hm:m≤maxLen) (h:SameC w A A' m):Calls Tryz.prog 18 #[.agg #[.int .u64 d,.int .u64 nx,.slice A m c],.agg #[.int .u64 d,.int .u64 nx,.slice A' m c']] w fun e w'=>e=.returned (.bool true)∧Below w.heap.size w w':=by
 have HC:=Lib.hid (fun(V:World) (hb:Below w.heap.size w V)=>samec_true A A' m c c' V hm (h.below hb))
 clear h hm
 go_enter Tryz.func18,Tryz.ntmps18
 go_upto_region 1 with (fail)
 refine wp_let (fun V=>Blk V w.heap.size 46 #[.int .u64 d,.int .u64 nx,.slice A m c]∧Blk V (w.heap.size+1) 46 #[.int .u64 d,.int .u64 nx,.slice A' m c']∧Below w.heap.size w V) ⟨(Blk.new _ _ _).alloc _,blk_atZ _ _ _ _ (by simp),((Below.refl _ w).alloc (Nat.le_refl _) _).alloc (by simp) _⟩ ?_
 rintro W1 ⟨b1,b2,b3⟩
 have B3:=Lib.hid b3
 have x0:=b1.cell 0
 have x1:=b1.cell 1
 have x2:=b1.cell 2
 have y0:=b2.cell 0
 have y1:=b2.cell 1
 have y2:=b2.cell 2
 simp at x0 x1 x2 y0 y1 y2
 clear b1 b2 b3
 go_wp2_with (go_at_call 42;refine(HC.out _ B3.out).mono ?_;rintro e w2 ⟨rfl,hb⟩;have B4:=Lib.hid (B3.out.trans (hb.mono B3.out.size));clear hb)
 go_ret
 exact⟨rfl,B4.out⟩
end Go.Proofs.YtnadmdadcpemnaaGreat
namespace Go.Proofs.YtnadmdadcpemnaaGreat
open Go.RowKit
set_option linter.unusedVariables false
set_option linter.unusedSimpArgs false
def CntL (w:World) (A:Option Addr) (vs:List SV):Prop:=∀k v,vs[k]? = some v→CE2 w A k v.ct v.n v.z
theorem cntL_sl {w:World} {A:Option Addr} {n c:Nat} {lx:List SE} (h:SL w 77 2 A n c (lx.flatMap SE.cc)) (hn:n=lx.length) (hp:∀x,x∈lx→SL w 5 1 x.A x.v.n x.c x.v.bytes):CntL w A (lx.map (·.v)):=fun k v hv=>by
 rw[List.getElem?_map]at hv
 cases hx:lx[k]? with
 | none=>rw[hx]at hv;cases hv
 | some x=>
  rw[hx]at hv
  obtain rfl:x.v=v:=by simpa using hv
  have hk:k < lx.length:=(List.getElem?_eq_some_iff.1 hx).1
  obtain⟨b,o,hA,hb⟩:=h.some_ (by omega)
  have c0:=h.cell hA (j:=k*2+0) (by omega)
  have c1:=h.cell hA (j:=k*2+1) (by omega)
  rw[flat_at SE.cc 2 SE.cclen lx k _ x hx (by omega)]at c0 c1
  exact⟨b,o,x.A,x.c,hA,hb,c0,c1,(hp x (List.mem_of_getElem? hx)).rowOf (fun j hj=>by unfold SV.bytes;rw[List.getElem?_map,List.getElem?_range hj];rfl)⟩
theorem svTo_at {ct:Nat→Int} {pn:Nat→Nat} {z:Nat→Nat→Int} {m k:Nat} {v:SV} (h:(svTo ct pn z m)[k]? = some v):k < m∧v=svAt ct pn z k:=by
 unfold svTo at h
 rw[List.getElem?_map]at h
 by_cases hk:k < m
 ·rw[List.getElem?_range hk]at h
  exact⟨hk,(Option.some.inj h).symm⟩
 ·rw[List.getElem?_eq_none (by rw[List.length_range];omega)]at h
  cases h
theorem svTo_len (ct:Nat→Int) (pn:Nat→Nat) (z:Nat→Nat→Int) (m:Nat):(svTo ct pn z m).length=m:=by
 unfold svTo
 rw[List.length_map,List.length_range]
theorem cntL_cnts {w:World} {A:Option Addr} {m:Nat} {ct:Nat→Int} {PA:Nat→Option Addr} {pn pc:Nat→Nat} {z:Nat→Nat→Int} (h:Cnts w A m ct PA pn pc z):CntL w A (svTo ct pn z m):=fun k v hv=>by
 obtain⟨hk,rfl⟩:=svTo_at hv
 obtain⟨lb,lo,e,hlt,hc⟩:=h.at_ (by omega)
 exact⟨lb,lo,PA k,pc k,e,hlt,(hc k hk).1,(hc k hk).2,h.row k hk⟩
theorem sameC_L {w:World} {A A':Option Addr} {vs:List SV} (h:CntL w A vs) (h':CntL w A' vs):SameC w A A' vs.length:=fun k hk=>
 have e:vs[k]? = some vs[k]:=List.getElem?_eq_getElem hk
 ⟨_,_,_,_,h k _ e,h' k _ e,fun j hj=>rfl⟩
def SoloR (w0 w:World) (g:Nat) (s:RS) (N:Nat→Prop):Prop:=∃W R sb l ub eb,RxM w g s W R sb l ub eb∧(∀k,W k→w0.heap.size≤k)∧Below w0.heap.size w0 w∧(∀k,N k→w0.heap.size≤k∧k < w.heap.size∧¬W k∧¬R k)
structure RFine (s:RS):Prop where
 ok:s.C.Ok
 val:s.C.Valid
 cm:s.C.cm=false
 few:s.L.length≤250
 dup:s.dup < 4611686018427387903
section
variable {w0 w w':World} {g:Nat} {s s':RS} {N N':Nat→Prop}
theorem SoloR.low (h:SoloR w0 w g s N):Below w0.heap.size w0 w:=by
 obtain⟨W,R,sb,l,ub,eb,h1,h2,h3,h4⟩:=h
 exact h3
theorem SoloR.below (h:SoloR w0 w g s N) (hb:Below w.heap.size w w'):SoloR w0 w' g s N:=by
 obtain⟨W,R,sb,l,ub,eb,h1,h2,h3,h4⟩:=h
 exact⟨W,R,sb,l,ub,eb,h1.below hb,h2,h3.trans (hb.mono h3.size),fun k hk=>⟨(h4 k hk).1,Nat.lt_of_lt_of_le (h4 k hk).2.1 hb.size,(h4 k hk).2.2⟩⟩
def SoO (w0 w:World) (g:Nat) (N:Nat→Prop) (r:List SV×Int×RS) (e:Ending) (w':World):Prop:=
 ∃A c lo,e=.returned (.tuple #[.slice A lo.length c,.int .i64 r.2.1])∧OutM w' w.heap.size A c lo∧lo.map (·.v)=r.1∧(∀x,x∈lo→Pkt w' (fun k=>¬N k) x.A x.v.n x.c x.v.z)∧SoloR w0 w' g r.2.2 N∧KeepF (fun k=>¬N k) w w'
theorem solor_receive (h:SoloR w0 w g s N) (hf:RFine s) (t:Int) (A:Option Addr) (n c:Nat) (z:Nat→Nat) (hn:n≤9500) (hnc:n≤c) (hz:∀j,j < n→z j < 256) (hr:Row w w.heap.size A n (fun j=>.int .u8 ((z j:Nat):Int))) (hA:∀a,A=some a→n ≠ 0→a.block < w0.heap.size∨N a.block) :
  Calls Tryz.prog 11 #[.pointer (some ⟨g,0,none⟩),.int .i64 t,.slice A n c] w (SoO w0 w g N (s.receive t n z)):=by
 obtain⟨W,R,sb,l,ub,eb,h1,h2,h3,h4⟩:=h
 have hl:l.length=s.L.length:=by rw[←h1.lv,List.length_map]
 have hs:=h3.size
 refine(receive_ok g s W R sb l ub eb w h1 hf.ok hf.cm ⟨hf.val.2.2.2.2.2.1,hf.val.2.2.2.2.2.2⟩ (by have:=hf.few;omega) hf.dup t A n c z (by omega) hnc hz hr (fun a ha hn0 hw=>?_) (dataAll_any g s.C W R sb ub eb A n c z hf.ok hf.val (fun _=>hn) hnc hz)).mono ?_
 ·rcases hA a ha hn0 with h | h
  ·have:=h2 _ hw;omega
  ·exact(h4 _ h).2.2.1 hw
 ·rintro e w' ⟨R',l',A',c',lo,he,hO,hm,hp,hT,hR1,hR2,hK⟩
  have hNR:∀k,N k→¬R' k:=fun k hk hr=>by
   rcases hR1 k hr with h | h
   ·exact(h4 k hk).2.2.2 h
   ·have:=(h4 k hk).2.1;omega
  refine⟨A',c',lo,he,hO,hm,fun x hx=>⟨(hp x hx).pos,(hp x hx).max,(hp x hx).cap,(hp x hx).byte,(hp x hx).row,fun a ha hn=>hNR _ hn ((hp x hx).ro a ha)⟩,⟨W,R',sb,l',ub,eb,hT,h2,KeepF.below h3 hK (fun k hk=>h2 k hk) hs,fun k hk=>⟨(h4 k hk).1,Nat.lt_of_lt_of_le (h4 k hk).2.1 hK.size,(h4 k hk).2.2.1,hNR k hk⟩⟩,hK.mono (fun k hk hn=>(h4 k hn).2.2.1 hk)⟩
theorem solor_dups (h:SoloR w0 w g s N):Calls Tryz.prog 17 #[.pointer (some ⟨g,0,none⟩)] w fun e w'=>e=.returned (.int .i64 s.dup)∧w=w':=by
 obtain⟨W,R,sb,l,ub,eb,h1,h2,h3,h4⟩:=h
 exact dups_ok g s W R sb l ub eb w h1
def SoE (s:RS) (w:World) (e:Ending) (w':World):Prop:=
 ∃(A:Option Addr) (c:Nat),e=.returned (.agg #[.int .u64 s.deliver,.int .u64 s.next,.slice A s.L.length c])∧s.L.length≤c∧CntL w' A s.L∧Below w.heap.size w w'
theorem solor_export (h:SoloR w0 w g s N) (hf:s.L.length≤250):Calls Tryz.prog 19 #[.pointer (some ⟨g,0,none⟩)] w (SoE s w):=by
 obtain⟨W,R,sb,l,ub,eb,h1,h2,h3,h4⟩:=h
 have hl:l.length=s.L.length:=by rw[←h1.lv,List.length_map]
 refine(rexport_ok g s W R sb l ub eb w h1 (sortedOK_small (by omega)) (by omega)).mono ?_
 rintro e w' ⟨A,c,lx,he,hv,hS,hA,hp,hB⟩
 have hll:lx.length=l.length:=by
  have:=congrArg List.length hv
  simpa using this
 rw[hl]at he
 refine⟨A,c,he,by have:=hS.le;omega,?_,hB⟩
 have:=cntL_sl hS hll.symm (fun x hx=>(hp x hx).1)
 rw[hv,h1.lv]at this
 exact this
end
theorem same46_L (d nx:Int) (A A':Option Addr) (m c c':Nat) (vs:List SV) (w:World) (hm:m=vs.length) (hl:m≤maxLen) (h:CntL w A vs) (h':CntL w A' vs):Calls Tryz.prog 18 #[.agg #[.int .u64 d,.int .u64 nx,.slice A m c],.agg #[.int .u64 d,.int .u64 nx,.slice A' m c']] w fun e w'=>e=.returned (.bool true)∧Below w.heap.size w w':=
 same46_true d nx A A' m c c' w hl (by rw[hm];exact sameC_L h h')
end Go.Proofs.YtnadmdadcpemnaaGreat
namespace Go.Proofs.YtnadmdadcpemnaaGreat
open Go.RowKit
set_option linter.unusedVariables false
set_option linter.unusedSimpArgs false
attribute [local go_sem ↓] Go.wp_at_zero Go.wp_at_succ
set_option maxRecDepth 100000 in
set_option maxHeartbeats 6400000 in
theorem rresume_bad (cf:Cfg) (A:Option Addr) (m c:Nat) (d nx:Int) (ct:Nat→Int) (PA:Nat→Option Addr) (pn pc:Nat→Nat) (z:Nat→Nat→Int) (w:World) (hd:0≤d) (hnx:0≤nx∧nx < 18446744073709551616) (hd2:d < 18446744073709551616) (hm:m≤maxLen) (h:Cnts w A m ct PA pn pc z) (hw:¬(cf.Valid∧Whole d nx m ct pn)) :
  Calls Tryz.prog 16 #[.agg cf.arr,.agg #[.int .u64 d,.int .u64 nx,.slice A m c]] w fun e w'=>e=.returned (.tuple #[.pointer none,.int .i64 2])∧Below w.heap.size w w':=by
 have HV:=Lib.hid (fun W=>rvalid_ok cf W)
 have HW:=Lib.hid (fun(hnw:¬Whole d nx m ct pn) W (hW:Cnts W A m ct PA pn pc z)=>whole_no A m c d nx ct PA pn pc z W hd hnx hd2 hm hW hnw)
 have HC:=Lib.hid h
 have HS:Hid ((Tryz.prog.info? 25).map (·.size)=some cf.arr.size):=Lib.hid (by rw[cf.arr_size];exact infoPd)
 obtain⟨Z,hZ⟩:∃Z,Z=cf.arr:=⟨_,rfl⟩
 rw[←hZ]at HV HS ⊢
 have HU:=Lib.hid Tryz.underlying25
 clear h hZ
 go_enter Tryz.func16,Tryz.ntmps16
 go_upto_region 1 with (fail)
 refine wp_let (fun W=>Blk W w.heap.size 25 Z∧Blk W (w.heap.size+1) 46 #[.int .u64 d,.int .u64 nx,.slice A m c]∧Below w.heap.size w W) ⟨(Blk.new _ _ _).alloc _,blk_atZ _ _ _ _ (by simp),((Below.refl _ w).alloc (Nat.le_refl _) _).alloc (by simp) _⟩ ?_
 rintro W1 ⟨b1,b2,b3⟩
 have B1:=Lib.hid b1
 have B2:=Lib.hid b2
 have B3:=Lib.hid b3
 clear b1 b2 b3
 by_cases hv:cf.Valid
 ·rw[decide_eq_true hv]at HV
  have HN:=Lib.hid (fun W hW=>HW.out (fun h=>hw ⟨hv,h⟩) W hW)
  clear hv hw
  go_wp2_with (first
   | (refine wpList_load_row rfl _ _ rfl w.heap.size rfl 25 Z (0,0) _ B1.out HU.out rfl HS.out ?_)
   | (go_at_call 38;refine(HV.out _).mono ?_;rintro e w2 ⟨rfl,hB⟩;have D2:=Lib.hid (B3.out.trans (hB.mono B3.out.size));have x0:=(B2.out.below hB B2.out.lt).cell 0;have x1:=(B2.out.below hB B2.out.lt).cell 1;have x2:=(B2.out.below hB B2.out.lt).cell 2;simp at x0 x1 x2;clear hB)
   | (go_at_call 39;refine(HN.out _ (HC.out.below D2.out)).mono ?_;rintro e w3 ⟨rfl,hB⟩;have D3:=Lib.hid (D2.out.trans (hB.mono D2.out.size));clear hB))
  go_ret2
  exact⟨rfl,D3.out⟩
 ·rw[decide_eq_false hv]at HV
  clear hv hw
  go_wp2_with (first
   | (refine wpList_load_row rfl _ _ rfl w.heap.size rfl 25 Z (0,0) _ B1.out HU.out rfl HS.out ?_)
   | (go_at_call 38;refine(HV.out _).mono ?_;rintro e w2 ⟨rfl,hB⟩;have D2:=Lib.hid (B3.out.trans (hB.mono B3.out.size));clear hB))
  go_ret2
  exact⟨rfl,D2.out⟩
end Go.Proofs.YtnadmdadcpemnaaGreat
namespace Go.Proofs.YtnadmdadcpemnaaGreat
open Go.RowKit
set_option linter.unusedVariables false
theorem cnt_inv {d:Int} {sn:Nat} {ct:Int} (hs:sn < 4096) (h0:0≤d) (h:cntOf d (sn:Int)=some ct):0≤ct∧ct < 4294967296∧d-2048≤ct∧ct≤d+2047∧ct % 4096=sn:=by
 unfold cntOf at h
 split at h
 ·injection h with h
  unfold cntH at *
  split at h<;>rename_i h1
  ·rw[if_pos h1]at *;omega
  ·rw[if_neg h1]at *
   split at h<;>rename_i h2
   ·rw[if_pos h2]at *;omega
   ·rw[if_neg h2]at *;omega
 ·cases h
theorem cnt_same {d d':Int} {sn:Nat} {ct:Int} (hs:sn < 4096) (h0:0≤d) (h:cntOf d (sn:Int)=some ct) (h1:0≤d') (h2:d'-2048≤ct) (h3:ct≤d'+2047):cntOf d' (sn:Int)=some ct:=by
 obtain⟨a1,a2,a3,a4,a5⟩:=cnt_inv hs h0 h
 have hh:cntH d' (sn:Int)=ct / 4096:=by
  unfold cntH
  split
  ·omega
  ·split<;>omega
 unfold cntOf
 rw[hh,if_pos (by omega)]
 congr 1
 omega
theorem fromL_lt:∀(l:List SV) (d:Int) (e:SV),e∈(fromL l d).1→e.ct < (fromL l d).2.2
 | [],d,e,h=>by cases h
 | x :: r,d,e,h=>by
  unfold fromL at h ⊢
  split at h
  ·rename_i hx
   rw[if_pos hx]
   rcases List.mem_cons.1 h with h | h
   ·subst h
    have:=fromL_end r (d+1)
    simp only
    omega
   ·exact fromL_lt r (d+1) e h
  ·cases h
theorem insV_mem (x:SV):∀l:List SV,x∈insV x l
 | []=>by simp[insV]
 | y :: r=>by
  unfold insV
  split
  ·simp
  ·exact List.mem_cons_of_mem _ (insV_mem x r)
theorem insV_length (x:SV):∀l:List SV,(insV x l).length=l.length+1
 | []=>rfl
 | y :: r=>by
  unfold insV
  split
  ·simp
  ·simp[insV_length x r]
theorem take_cases (q:RS) (n:Nat) (z:Nat→Nat) :
  (∃e:Int,e ≠ 0∧q.take n z=(e,false,q))∨q.take n z=(0,false,{ q with dup:=q.dup+1 })∨
  ∃ct x,cntOf q.deliver (snOf z)=some ct∧q.deliver≤ct∧SV.ct x=ct∧q.take n z=(0,true,{ q with L:=insV x q.L,next:=max q.next (ct+1) })∧
   ∀q':RS,q'.C=q.C→cntOf q'.deliver (snOf z)=some ct→(stored q'.L ct=true∨ct < q'.deliver)→q'.take n z=(0,false,{ q' with dup:=q'.dup+1 }):=by
 by_cases h1:n < q.C.least
 ·exact .inl ⟨5,by decide,by unfold RS.take;rw[if_pos h1]⟩
 by_cases h2:z 0 / 16 ≠ 8
 ·exact .inl ⟨9,by decide,by unfold RS.take;rw[if_neg h1,if_pos h2]⟩
 cases h3:cntOf q.deliver (snOf z) with
 | none=>exact .inl ⟨6,by decide,by unfold RS.take;rw[if_neg h1,if_neg h2,h3]⟩
 | some ct=>
  by_cases h4:16384 < n-2
  ·exact .inl ⟨4,by decide,by unfold RS.take;rw[if_neg h1,if_neg h2,h3];simp only;rw[if_pos h4]⟩
  by_cases h5:codeOk q.C ct.toNat n z=false
  ·exact .inl ⟨11,by decide,by unfold RS.take;rw[if_neg h1,if_neg h2,h3];simp only;rw[if_neg h4,if_pos h5]⟩
  by_cases h6:stored q.L ct=true∨ct < q.deliver
  ·exact .inr (.inl (by unfold RS.take;rw[if_neg h1,if_neg h2,h3];simp only;rw[if_neg h4,if_neg h5,if_pos h6]))
  by_cases h7:dataN q.C n=0
  ·exact .inl ⟨5,by decide,by unfold RS.take;rw[if_neg h1,if_neg h2,h3];simp only;rw[if_neg h4,if_neg h5,if_neg h6,if_pos h7]⟩
  by_cases h8:9000 < dataN q.C n
  ·exact .inl ⟨4,by decide,by unfold RS.take;rw[if_neg h1,if_neg h2,h3];simp only;rw[if_neg h4,if_neg h5,if_neg h6,if_neg h7,if_pos h8]⟩
  refine .inr (.inr ⟨ct,⟨ct,dataN q.C n,fun j=>((dataZ q.C ct.toNat z j:Nat):Int)⟩,rfl,by have:=fun h=>h6 (.inr h);omega,rfl,by unfold RS.take;rw[if_neg h1,if_neg h2,h3];simp only;rw[if_neg h4,if_neg h5,if_neg h6,if_neg h7,if_neg h8],fun q' hC hc hs=>?_⟩)
  unfold RS.take
  rw[hC,if_neg h1,if_neg h2,hc]
  simp only
  rw[if_neg h4,if_neg h5,if_pos hs]
def RefO (s:RS) (n:Nat) (z:Nat→Nat):Prop:=
 ((s.receive 0 n z).2.1 ≠ 0∧(s.receive 0 n z).1=[]∧(s.receive 0 n z).2.2=s.at_ 0)∨
 ((s.receive 0 n z).2.1=0∧(s.receive 0 n z).1=[]∧(s.receive 0 n z).2.2={ s.at_ 0 with dup:=s.dup+1 })∨
 ∃s1:RS,(s.receive 0 n z).2.1=0∧(s.receive 0 n z).2.2=s1∧s1.dup=s.dup∧s1.deliver=s.deliver+(s.receive 0 n z).1.length∧s.next≤s1.next∧s1.run=false∧s1.C=s.C∧s1.L.length≤s.L.length+1∧(s.receive 0 n z).1.length≤s.L.length+1∧
  s1.receive 0 n z=([],0,{ s1.at_ 0 with dup:=s1.dup+1 })
theorem refuses (s:RS) (hr:s.run=false) (hro:s.C.ro=0) (h0:0≤s.deliver) (hl:s.L.length≤40) (n:Nat) (z:Nat→Nat) (hz:∀j,z j < 256):RefO s n z:=by
 have hE:∀q:RS,q.run=false→(q.at_ 0).expire=([],q.at_ 0):=fun q hq=>expire_rest hq
 have hT:∀q:RS,q.run=false→q.C.ro=0→q.timer=q:=fun q h1 h2=>timer_still h1 (fun h=>by rw[h2]at h;omega)
 have hR:∀q:RS,q.run=false→q.receive 0 n z=(let y:=(q.at_ 0).take n z;if y.2.1=true then (y.2.2.deliver_.1,0,y.2.2.deliver_.2.timer) else ([],y.1,y.2.2)):=fun q hq=>by
  unfold RS.receive
  rw[if_neg (by decide)]
  simp only[hE q hq,List.nil_append]
 have hx:=hR s hr
 unfold RefO
 rcases take_cases (s.at_ 0) n z with ⟨e,he,ht⟩ | ht | ⟨ct,x,hc,hd,hxc,ht,hag⟩
 ·rw[ht]at hx
  simp only[Bool.false_eq_true,if_false]at hx
  rw[hx]
  exact .inl ⟨he,rfl,rfl⟩
 ·rw[ht]at hx
  simp only[Bool.false_eq_true,if_false]at hx
  rw[hx]
  exact .inr (.inl ⟨rfl,rfl,rfl⟩)
 ·rw[ht]at hx
  simp only[if_true]at hx
  have hd':s.deliver≤ct:=hd
  have hsn:snOf z < 4096:=by have:=hz 1;unfold snOf;omega
  obtain⟨s',hs'⟩:∃s':RS,s'={ s.at_ 0 with L:=insV x (s.at_ 0).L,next:=max (s.at_ 0).next (ct+1) }:=⟨_,rfl⟩
  have p1:s'.run=false:=by rw[hs'];exact hr
  have p2:s'.C=s.C:=by rw[hs'];rfl
  have p3:s'.deliver=s.deliver:=by rw[hs'];rfl
  have p4:s.next≤s'.next:=by rw[hs'];exact Int.le_max_left _ _
  have p5:s'.L=insV x s.L:=by rw[hs'];rfl
  have p6:s'.dup=s.dup:=by rw[hs'];rfl
  rw[←hs']at hx
  have r1:s'.deliver_.2.run=false:=p1
  have r2:s'.deliver_.2.C=s.C:=p2
  rw[hT _ r1 (by rw[r2];exact hro)]at hx
  have e1:=fromL_end s'.L s'.deliver
  have e2:=fromL_app s'.L s'.deliver
  have e3:=fromL_lt s'.L s'.deliver x
  have hlen:(fromL s'.L s'.deliver).1.length+(fromL s'.L s'.deliver).2.1.length=s.L.length+1:=by
   have:=congrArg List.length e2
   rw[List.length_append,p5,insV_length]at this
   rw[p5];exact this
  have hm:x∈(fromL s'.L s'.deliver).1∨x∈(fromL s'.L s'.deliver).2.1:=by
   rw[←List.mem_append,e2,p5]
   exact insV_mem x s.L
  have hdl:s'.deliver_.2.deliver=s.deliver+(fromL s'.L s'.deliver).1.length:=by
   show(fromL s'.L s'.deliver).2.2=_
   rw[e1,p3]
  have hc2:cntOf s'.deliver_.2.deliver (snOf z)=some ct:=by
   have hi:=cnt_inv hsn h0 hc
   refine cnt_same hsn h0 hc (by rw[hdl];omega) ?_ ?_
   ·rw[hdl];omega
   ·rw[hdl];have:s.deliver≤ct:=hd';have h4:ct≤s.deliver+2047:=hi.2.2.2.1;omega
  have hst:stored s'.deliver_.2.L ct=true∨ct < s'.deliver_.2.deliver:=by
   rcases hm with h | h
   ·right
    rw[←hxc]
    exact e3 h
   ·left
    show(List.any (fromL s'.L s'.deliver).2.1 fun e=>decide (e.ct=ct))=true
    exact List.any_eq_true.2 ⟨x,h,by simpa using hxc⟩
  rw[hx]
  refine .inr (.inr ⟨s'.deliver_.2,rfl,rfl,p6,hdl,p4,r1,r2,by show(fromL s'.L s'.deliver).2.1.length≤_;omega,by show(fromL s'.L s'.deliver).1.length≤_;omega,?_⟩)
  have hx2:=hR s'.deliver_.2 r1
  have ht2:=hag (s'.deliver_.2.at_ 0) (by show s'.deliver_.2.C=(s.at_ 0).C;rw[r2];rfl) hc2 hst
  rw[ht2]at hx2
  simp only[Bool.false_eq_true,if_false]at hx2
  rw[hx2]
  rfl
end Go.Proofs.YtnadmdadcpemnaaGreat
