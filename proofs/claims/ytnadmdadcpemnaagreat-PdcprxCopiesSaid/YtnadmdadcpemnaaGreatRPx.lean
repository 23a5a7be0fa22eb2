import Derived.Test.YtnadmdadcpemnaaGreatRFx
import Derived.Test.YtnadmdadcpemnaaGreatMZAx
import Derived.Deep.MidRow
namespace Go.Proofs.YtnadmdadcpemnaaGreat
open Go.RowKit
attribute [local go_sem ↓] Go.wp_at_zero Go.wp_at_succ
set_option linter.unusedVariables false
private theorem zh {p:Prop} (h:p):Go.RowKit.Hid p:=h
def pduL (cf:Cfg) (ct n:Nat) (z:Nat→Nat):List Value:=(List.range (pduN cf n)).map fun j=>.int .u8 ((pduZ cf ct n z j:Nat):Int)
def PduC (cf:Cfg) (ct n:Nat) (z:Nat→Nat) (w:World) (e:Ending) (w':World):Prop:=
 ∃A c,e=.returned (.slice A (pduN cf n) c)∧SL w' 5 1 A (pduN cf n) c (pduL cf ct n z)∧Fresh w.heap.size A∧Below w.heap.size w w'
theorem pduL_plain {cf:Cfg} (ct n:Nat) (z:Nat→Nat) (h:cf.ig=false):pduL cf ct n z=[.int .u8 ((hdB ct 0:Nat):Int),.int .u8 ((hdB ct 1:Nat):Int)]++cryL (nf cf.key) ct cf.b.toNat cf.d.toNat z n:=by
 have hpn:pduN cf n=2+n:=by unfold pduN plainN;rw[if_neg (by rw[h];decide)]
 unfold pduL cryL
 rw[hpn]
 apply List.ext_getElem?
 intro j
 by_cases hj:j < 2+n
 ·rw[List.getElem?_map,List.getElem?_range hj]
  by_cases h2:j < 2
  ·rcases (by omega:j=0∨j=1)with rfl | rfl<;>simp[pduZ,catF]
  ·rw[List.getElem?_append_right (by simp;omega),List.getElem?_map,List.getElem?_range (by simp;omega)]
   simp only[Option.map_some,List.length_cons,List.length_nil]
   unfold pduZ
   rw[show catF (hdB ct) 2 (cryF (nf cf.key) ct cf.b.toNat cf.d.toNat (plainZ cf ct n z)) j=cryF (nf cf.key) ct cf.b.toNat cf.d.toNat (plainZ cf ct n z) (j-2) by unfold catF;rw[if_neg h2],pdu_plain h (by omega)]
 ·rw[List.getElem?_eq_none (by simp;omega),List.getElem?_eq_none (by simp;omega)]
theorem cryL_one {key:Nat→Nat} {ct b d:Nat} {z:Nat→Nat} {n:Nat} {u:Value} (h:u∈cryL key ct b d z n):u.oneCell'=true:=by
 obtain⟨j,_,rfl⟩:=List.mem_map.1 h
 rfl
theorem src3 {w:World} {b o n c:Nat} {xs:List Value} (h:SL w 5 1 (some ⟨b,o,none⟩) n c xs) (h1:∀u,u∈xs→u.oneCell'=true:=by exact fun u hu=>cryL_one hu):Src Tryz.prog 1 35 (.slice (some ⟨b,o,none⟩) n c) n xs w:=
 Src.ofSlice _ Tryz.underlying35 ⟨b,o,none⟩ n c xs h.len (fun j u hu=>by
  have hj:j < n*1:=by have:=(List.getElem?_eq_some_iff.1 hu).1;rwa [h.len]at this
  rw[Addr.add_lit]
  exact(h.cell rfl hj).trans hu) h1
set_option maxRecDepth 100000 in
set_option maxHeartbeats 1600000 in
theorem rpdu_plain (cf:Cfg) (hok:cf.Ok) (hv:cf.Valid) (hig:cf.ig=false) (ct:Nat) (hct:ct < 4294967296) (A:Option Addr) (n c:Nat) (z:Nat→Nat) (hp1:1≤n) (hp9:n≤9000) (w:World) (hr:Row w w.heap.size A n (fun j=>.int .u8 ((z j:Nat):Int))) (hz:∀j,j < n→z j < 256) :
  Calls Tryz.prog 12 #[.agg cf.arr,.int .u32 ct,.slice A n c] w (PduC cf ct n z w):=by
 have HR:=zh hr
 have HZ:=zh hz
 have c0:(0:Int)≤(ct:Int):=by omega
 have c1:(ct:Int) < 4294967296:=by omega
 have HIG:=zh hig
 have hpn:pduN cf n=2+n:=by unfold pduN plainN;rw[if_neg (by rw[hig];decide)]
 obtain⟨B,hB⟩:∃B:Nat,B=cf.b.toNat:=⟨_,rfl⟩
 obtain⟨D,hD⟩:∃D:Nat,D=cf.d.toNat:=⟨_,rfl⟩
 have HBI:Hid (cf.b=(B:Int)):=zh (by rw[hB];have:=hv.1;omega)
 have HDI:Hid (cf.d=(D:Int)):=zh (by rw[hD];have:=hv.2.2.1;omega)
 have HCR:=zh (fun A2 c2 V (h2:Row V V.heap.size A2 n (fun j=>.int .u8 ((z j:Nat):Int)))=>rcrypt_ok (nf cf.key) ct B D hok.keyN hct (by rw[hB];have:=hv.2.1;omega) (by rw[hD];have:=hv.2.2.1;omega) A2 n c2 z (by omega) hz V h2)
 have HP:Hid (1≤n∧n≤9000):=zh ⟨hp1,hp9⟩
 have HL:=zh (show pduL cf ct n z=[.int .u8 ((hdB ct 0:Nat):Int),.int .u8 ((hdB ct 1:Nat):Int)]++cryL (nf cf.key) ct B D z n by rw[hB,hD];exact pduL_plain ct n z hig)
 have HH0:Hid (((hdB ct 0:Nat):Int)=128+(ct:Int) / 256 % 16):=zh (by unfold hdB;rw[if_pos rfl];omega)
 have HH1:Hid (((hdB ct 1:Nat):Int)=(ct:Int) % 256):=zh (by unfold hdB;rw[if_neg (by decide)];omega)
 obtain⟨Q,hQ⟩:∃Q:Ending→World→Prop,Q=PduC cf ct n z w:=⟨_,rfl⟩
 have HQ:Hid (∀w' A c,SL w' 5 1 A (2+n) c (pduL cf ct n z)→Fresh w.heap.size A→Below w.heap.size w w'→Q (.returned (.slice A (2+n) c)) w'):=zh (by rw[hQ];exact fun w' A c h1 h2 h3=>⟨A,c,by rw[hpn],by rw[hpn];exact h1,h2,h3⟩)
 rw[←hQ]
 obtain⟨CA,hCA⟩:∃CA,CA=cf.arr:=⟨_,rfl⟩
 have HC0:Hid (CA[0]? = some (.int .i64 (B:Int))):=zh (by rw[hCA,cf.arr_at (by decide),show cf.cell 0=.int .i64 cf.b from rfl,HBI.out])
 have HC1:Hid (CA[1]? = some (.int .i64 (D:Int))):=zh (by rw[hCA,cf.arr_at (by decide),show cf.cell 1=.int .i64 cf.d from rfl,HDI.out])
 have HC34:Hid (CA[34]? = some (.bool false)):=zh (by rw[hCA,cf.arr_at (by decide),show cf.cell 34=.bool cf.ig from rfl,hig])
 have HCK:Hid (∀j,j < 16→CA[2+j]? = some (.int .u8 ((nf cf.key j:Nat):Int))):=zh (by
  rw[hCA]
  intro j hj
  rw[cf.arr_at (by omega)]
  unfold Cfg.cell
  rw[if_neg (by omega),if_neg (by omega),if_pos (by omega),show 2+j-2=j by omega,nf_cast hok.key hj])
 rw[←hCA]
 obtain⟨KL,hKL⟩:∃KL,KL=(b16 (nf cf.key)).toList:=⟨_,rfl⟩
 have HS16:Hid ((Tryz.prog.info? 23).map (·.size)=some KL.length):=zh (by rw[hKL,Array.length_toList,b16_size];kernel_rfl)
 have HKL:Hid (∀j,j < 16→KL[j]? = some (.int .u8 ((nf cf.key j:Nat):Int))):=zh (by rw[hKL];intro j hj;rw[Array.getElem?_toList,b16_at _ hj])
 have HKS:Hid (KL.length=16):=zh (by rw[hKL,Array.length_toList,b16_size])
 have HCR2:Hid (∀A2 c2 V,Row V V.heap.size A2 n (fun j=>.int .u8 ((z j:Nat):Int))→Calls Tryz.prog 37 #[.agg KL.toArray,.int .u32 ct,.int .i64 B,.int .i64 D,.slice A2 n c2] V (RCry (nf cf.key) ct B D n z V)):=zh (by rw[hKL,Array.toArray_toList];exact HCR.out)
 obtain⟨i0,hi0,hz0,hz1,hz2⟩:=info_parts Tryz.infoByte
 clear HCR hKL hQ hCA hr hz hct hp1 hp9 hok hv hig hB hD hpn HBI HDI
 go_enter Tryz.func12,Tryz.ntmps12
 go_upto_region 2 with (fail)
 obtain⟨cb,hcb⟩:∃cb,cb=w.heap.size:=⟨_,rfl⟩
 have HCB:=zh hcb
 obtain⟨lb,lo,hAA,hlb,hlc⟩:=HR.out (by have:=HP.out;omega)
 subst hAA
 rw[←HH0.out,←HH1.out]
 obtain⟨HDV,hHDV⟩:∃L:List Value,L=[.int .u8 ((hdB ct 0:Nat):Int),.int .u8 ((hdB ct 1:Nat):Int)]:=⟨_,rfl⟩
 have HHL:=zh (show HDV.length=2 by rw[hHDV];rfl)
 refine wp_let (fun V=>Blk V cb 25 CA∧SL V 5 1 (some ⟨cb+1,0,none⟩) 2 2 HDV∧Below w.heap.size w V∧cb+1 < V.heap.size) ⟨by rw[hcb];exact(Blk.new _ _ _).alloc _,by
  rw[hcb,hHDV]
  exact⟨rfl,.inr ⟨_,0,_,rfl,blk_atA _ _ _ _ (by simp),Nat.le_refl _,by unfold maxLen;omega,by simp,fun j hj=>by rw[Nat.zero_add];simp⟩⟩,((Below.refl _ w).alloc (Nat.le_refl _) _).alloc (by simp) _,by rw[hcb];simp⟩ ?_
 rintro V ⟨b1,b2,b3,b4⟩
 have B1:=zh b1
 have B2:=zh b2
 have B3:=zh b3
 rw[←hcb]
 have HSRC:Hid (Src Tryz.prog 1 35 (.slice (some ⟨lb,lo,none⟩) n c) n ((List.range n).map fun j=>.int .u8 ((z j:Nat):Int)) V):=zh (Src.ofSlice _ Tryz.underlying35 ⟨lb,lo,none⟩ n c _ (by simp) (fun j u hu=>by
   have hj:j < n:=by have:=(List.getElem?_eq_some_iff.1 hu).1;simpa using this
   rw[Addr.add_lit,b3.cell (p:=⟨lb,lo+j,none⟩) hlb,hlc j hj,←hu]
   simp[hj]) (fun u hu=>by
    obtain⟨j,_,rfl⟩:=List.mem_map.1 hu
    rfl))
 have HHV:=zh hHDV
 clear b1 b2 b3 hcb hlb hlc hHDV
 go_upto_region 3 with (refine wpList_sl_append rfl _ _ _ _ rfl V 5 i0 (.int .u8 0) 1 1 Tryz.underlying35 hi0 hz0 hz1 hz2 rfl none 0 0 _ rfl (SL.nil _ _ _) _ rfl n ((List.range n).map fun j=>.int .u8 ((z j:Nat):Int)) HSRC.out HP.out.1 (by have:=HP.out;unfold maxLen;omega) (by have:=HP.out;omega) ?_;intro A2 c2 V2 hs2 hk2 ha2;have HS2:=zh hs2;have HK2:=zh hk2;have HA2:=zh ha2;clear hs2 hk2 ha2)
 have hbV:Below V.heap.size V V2:=KeepF.below (Below.refl _ _) HK2.out (fun k ⟨a,ha,_⟩=>by cases ha) (Nat.le_refl _)
 have HBV:=zh hbV
 have HB2:=zh (B3.out.trans (hbV.mono B3.out.size))
 have C1:=zh (B1.out.below hbV B1.out.lt)
 have C2:=zh (B2.out.next hbV)
 have x34:V2.cell? ⟨cb,34,none⟩=some (.bool false):=(C1.out.cell 34).trans HC34.out
 have x0:V2.cell? ⟨cb,0,none⟩=some (.int .i64 (B:Int)):=(C1.out.cell 0).trans HC0.out
 have x1:V2.cell? ⟨cb,1,none⟩=some (.int .i64 (D:Int)):=(C1.out.cell 1).trans HC1.out
 have HKR:=zh (show V2.rangeAt cb 2 KL from fun j v hv=>by
  have hj:j < 16:=by have:=(List.getElem?_eq_some_iff.1 hv).1;rw[HKS.out]at this;exact this
  rw[C1.out.cell (2+j),HCK.out j hj,←hv,HKL.out j hj])
 have HR2:=zh (show Row V2 V2.heap.size A2 n (fun j=>.int .u8 ((z j:Nat):Int))from (show SL V2 5 1 A2 n c2 ((List.range n).map fun j=>.int .u8 ((z j:Nat):Int))from by simpa using HS2.out).rowOf (fun j hj=>by simp[hj]))
 clear hbV
 have HUK:=zh Tryz.underlying23
 go_wp2_with (first
  | (refine wpList_load_mid rfl 23 _ rfl cb 2 rfl KL _ HKR.out HUK.out rfl HS16.out ?_)
  | (go_at_call 37;refine(HCR2.out A2 c2 V2 HR2.out).mono ?_;rintro e V3 ⟨A3,c3,rfl,hs3,hf3,hb3⟩;obtain⟨b3,o3,rfl,hlt3⟩:=hs3.some_ HP.out.1;have HSL3:=zh (C2.out.next hb3);have HSRC3:=zh (src3 hs3);have HF3:=zh hf3;have HB3:=zh hb3;clear hs3 hf3 hb3 hlt3)
  | (refine wpList_sl_append rfl _ _ _ _ rfl V3 5 i0 (.int .u8 0) 1 1 Tryz.underlying35 hi0 hz0 hz1 hz2 rfl (some ⟨cb+1,0,none⟩) 2 2 HDV rfl HSL3.out _ rfl n _ HSRC3.out HP.out.1 (by have:=HP.out;unfold maxLen;omega) (by have:=HP.out;omega) ?_;intro A9 c9 V9 hs9 hk9 ha9;have HS9:=zh hs9;have HK9:=zh hk9;have HA9:=zh ha9;clear hs9 hk9 ha9))
 refine HQ.out _ _ _ (by rw[HL.out,←HHV.out];exact HS9.out) (fun a ha=>?_) ?_
 ·rcases HA9.out a ha with ⟨a',h1,h2⟩ | h2
  ·cases h1
   rw[h2,HCB.out]
   exact Nat.le_succ _
  ·exact Nat.le_trans HB2.out.size (Nat.le_trans HB3.out.size h2)
 ·exact KeepF.below (HB2.out.trans (HB3.out.mono HB2.out.size)) HK9.out (fun k ⟨a,ha,e⟩=>by cases ha;rw[e,HCB.out];exact Nat.le_succ _) (Nat.le_trans HB2.out.size HB3.out.size)
end Go.Proofs.YtnadmdadcpemnaaGreat
