import Derived.Test.YtnadmdadcpemnaaGreatMWRq
import Derived.Test.YtnadmdadcpemnaaGreatMZOq
import Derived.Test.YtnadmdadcpemnaaGreatMDUq
import Derived.Test.YtnadmdadcpemnaaGreatMZMq
import Derived.Test.YtnadmdadcpemnaaGreatMSDq
import Derived.Test.YtnadmdadcpemnaaGreatMWNq
import Derived.Test.YtnadmdadcpemnaaGreatB1q
set_option maxRecDepth 100000
set_option maxHeartbeats 12800000
namespace Go.Proofs.YtnadmdadcpemnaaGreat
set_option linter.unusedVariables false
set_option linter.unusedSimpArgs false
open Go.RowKit
attribute [local go_sem ↓] Go.wp_at_zero Go.wp_at_succ
theorem cfg_guard (C D:Array Value) (x y:Operand) (w:World):(eqGuard .eql 25 x y (.agg C) (.agg D)).run Tryz.prog w=.ok () w:=by kernel_rfl
theorem exec_cfg_self (c:Cfg) (w:World) (o:Oper) (x y:Operand) (t:TypeId) (ho:o.op=.binOp .eql 25 x y t) (ev:Operand->Value) (hx:ev x=.agg c.arr) (hy:ev y=.agg c.arr):(execOp ev o).run Tryz.prog w=.ok (.value (.bool true)) w:=by
 have h:=cfg_self c w;generalize c.arr=C at *;have hg:=cfg_guard C C x y w;unfold execOp;simp only[ho,hx,hy,Sem.run_bind,Sem.run_pure,hg,Result.andThen_ok,h]
section
variable {w0 w:World} {g h:Nat} {s:RS} {U:List (Nat->Int)} {X:Nat->Prop}
theorem stat_cell {V:World} {A:Option Addr} {n c:Nat} {s:RS} (hs:SL V 4 1 A n c (statL s n)) {i:Nat} (hi:i < n):∃b o,A=some ⟨b,o,none⟩/\b < V.heap.size/\V.cell? ⟨b,o+i,none⟩=some (.bool (stored s.L (s.deliver+1+(i:Int)))):=by
 obtain⟨b,o,hA,hb⟩:=hs.some_ (by omega);have hc:=hs.cell hA (j:=i) (by omega);refine⟨b,o,hA,hb,hc.trans ?_⟩;unfold statL;rw[List.getElem?_map,List.getElem?_range hi]
 rfl
theorem looks6_ok (hp:PRX w0 w g h s s U X) (hl:s.L.length<=250) :
  Calls Tryz.prog 26 #[.pointer (some ⟨g,0,none⟩),.pointer (some ⟨h,0,none⟩)] w fun e w'=>e=.returned (.bool true)/\PRX w0 w' g h s s U X/\KeepF (fun k=>k=g) w w':=by
 have HP:=zh hp;have HTX:=zh (fun(V:World) (hb:Below w.heap.size w V)=>(hp.below hb).texport hl);have HVX:=zh (fun(V:World) (hb:Below w.heap.size w V)=>(hp.below hb).vexport);have HFD:=zh (fun(V:World) (hb:Below w.heap.size w V)=>(hp.below hb).feed);have HSF:=zh (fun(V:World) A A' c c' (f1:CntL V A s.L) (f2:CntL V A' s.L)=>same46_L s.deliver s.next A A' s.L.length c c' s.L V rfl (by unfold maxLen;omega) f1 f2);have hok:=hp.ok;obtain⟨M,R,A0,c0,l0,uA,uc,v,⟨W,R1,sb,l1,ub,eb,p1,p2,p3,p4⟩,hlo,hX⟩:=hp;have hl0:l0.length=s.L.length:=by rw[<-v.lv,List.length_map]
 have HCF:=zh (rconfig_made g s W R1 sb l1 ub eb w p1);have HST:=zh (fun(V:World) (hb:Below w.heap.size w V)=>rstatus_made g s W R1 sb l1 ub eb V (p1.below hb));have HVS:=zh (fun(V:World) (hb:Below w.heap.size w V)=>vstatus_ok h s U M R A0 c0 l0 uA uc V (v.below hb) (by omega));have HDU:=zh (fun(V:World) (hb:Below w.heap.size w V)=>dups_ok g s W R1 sb l1 ub eb V (p1.below hb));have hgh:¬h=g:=fun e=>(p4 h (.inl (.inl v.mh))).2.2.1 (by rw[e];exact p1.wg);have hgl:g < w.heap.size:=p1.win g p1.wg;have HHR:=zh (show ∀V,Below w.heap.size w V->V.rangeAt h 0 s.C.arr.toList from fun V hV j x hx=>by
  have hj:j < 39:=by have:=(List.getElem?_eq_some_iff.1 hx).1;simpa[Cfg.arr_size]using this
  rw[Nat.zero_add,(v.below hV).cC hj,<-hx,Array.getElem?_toList,s.C.arr_at hj])
 have HHC:=zh (show ∀V,Below w.heap.size w V->V.cell? ⟨h,40,none⟩=some (.int .u64 s.deliver)/\V.cell? ⟨h,47,none⟩=some (.int .i64 s.dup)from fun V hV=>⟨(v.below hV).cd,(v.below hV).cdup⟩);have HSZ:Hid ((Tryz.prog.info? 25).map (·.size)=some s.C.arr.size):=zh (by rw[s.C.arr_size];exact infoPd);have HSL:Hid ((Tryz.prog.info? 25).map (·.size)=some s.C.arr.toList.length):=zh (by rw[Array.length_toList,s.C.arr_size];exact infoPd);have HO:Hid (s.C.arr.all (·.oneCell')=true):=zh s.C.arr_one;have HZZ:Hid (z39.size=s.C.arr.size):=zh (by rw[s.C.arr_size];rfl);have HU:=zh Tryz.underlying25;obtain⟨CA,hCA⟩:∃CA,CA=s.C.arr:=⟨_,rfl⟩
 rw[<-hCA]at HCF HSZ HSL HO HZZ HHR;have HCA:=zh hCA;have HSC:=zh (fun(V:World) (A:Option Addr) (c:Nat) (hs:SL V 4 1 A s.statN c (statL s s.statN)) (i:Nat) (hi:i < s.statN)=>stat_cell hs hi);have hnn:s.statN<=4294967296:=by unfold RS.statN;have h1:=hok.deliver;have h2:=hok.next;omega
 obtain⟨d,hd⟩:∃x,x=s.deliver:=⟨_,rfl⟩
 obtain⟨nx,hnx⟩:∃x,x=s.next:=⟨_,rfl⟩
 obtain⟨dup,hdup⟩:∃x,x=s.dup:=⟨_,rfl⟩
 obtain⟨n,hn⟩:∃x,x=s.statN:=⟨_,rfl⟩
 obtain⟨m,hm⟩:∃x,x=s.L.length:=⟨_,rfl⟩
 obtain⟨SV1,hSV⟩:∃f:Nat->Bool,∀i:Nat,f i=stored s.L (s.deliver+1+(i:Int)):=⟨fun i=>stored s.L (s.deliver+1+(i:Int)),fun i=>rfl⟩
 have HSC2:Hid (∀(V:World) (A:Option Addr) (c:Nat) (hs:SL V 4 1 A s.statN c (statL s s.statN)) (i:Nat) (hi:i < s.statN),∃b o,A=some ⟨b,o,none⟩/\b < V.heap.size/\V.cell? ⟨b,o+i,none⟩=some (.bool (SV1 i))):=zh (fun V A c hs i hi=>by
  rw[hSV i]
  exact HSC.out V A c hs i hi)
 have HTX2:Hid (∀V,Below w.heap.size w V->Calls Tryz.prog 19 #[.pointer (some ⟨g,0,none⟩)] V fun e w'=>∃(A:Option Addr) (c:Nat),e=.returned (.agg #[.int .u64 s.deliver,.int .u64 s.next,.slice A s.L.length c])/\s.L.length<=c/\CntL w' A s.L/\Below V.heap.size V w'):=HTX;have HVX2:Hid (∀V,Below w.heap.size w V->Calls Tryz.prog 56 #[.pointer (some ⟨h,0,none⟩)] V fun e w'=>∃(A:Option Addr) (c:Nat),e=.returned (.agg #[.int .u64 s.deliver,.int .u64 s.next,.slice A s.L.length c])/\s.L.length<=c/\CntL w' A s.L/\Below V.heap.size V w'):=HVX;rw[<-hd]at HHC HST HTX2 HVX2 HSF;rw[<-hdup]at HHC HDU;rw[<-hnx,<-hm]at HTX2 HVX2 HSF;rw[<-hn]at HST HVS HSC2 hnn;obtain⟨SLn,hSLn⟩:∃x,x=statL s n:=⟨_,rfl⟩
 rw[<-hSLn]at HST HVS HSC2;have HHG:=zh hgh;have HGL:=zh hgl;have HNN:=zh hnn;clear hok hl hl0 p1 p2 p3 p4 v hlo hX hCA hd hnx hdup hn hm hSV HSC HTX HVX hgh hgl hSLn hnn;go_enter Tryz.func26,Tryz.ntmps26;go_upto_region 2 with (first
  | (go_at_call 57;refine(HCF.out).mono ?_;rintro e w2 ⟨rfl,hb⟩;have B2:=zh hb;clear hb)
  | (refine wpList_store_row rfl _ _ _ rfl w2.heap.size CA rfl rfl 25 z39 (Blk.new _ _ _) HSZ.out HZZ.out HO.out ?_))
 try simp only[Act.put]
 refine wp_let (fun V=>Blk V w2.heap.size 25 CA/\Below w.heap.size w V) ⟨by first | exact Blk.new w2 _ _ | exact setRow_heap _ _ _ _ 25 (0,0) (Blk.new _ _ _),by first | exact B2.out.alloc B2.out.size _ | exact belowRow (B2.out.alloc B2.out.size _) B2.out.size _⟩ ?_;rintro V ⟨v1,v2⟩;have hcg:¬w2.heap.size=g:=by have:=B2.out.size;have:=HGL.out;omega
 obtain⟨cb,hcb⟩:∃cb,cb=w2.heap.size:=⟨_,rfl⟩
 rw[<-hcb]at v1 hcg ⊢;have BV:=zh v2;have HCG:=zh hcg;have HCB:=zh v1;clear v1 v2 hcb hcg;have HST2:=zh (HST.out V BV.out);go_upto_region 4 with (first
  | (go_at_call 58;refine(HST2.out).mono ?_;rintro e w3 ⟨A5,c5,rfl,h5,_,hb⟩;have H5:=zh h5;have B3:=zh hb;have HVS2:=zh (HVS.out w3 (BV.out.trans (hb.mono BV.out.size)));clear h5 hb)
  | (go_at_call 59;refine(HVS2.out).mono ?_;rintro e w4 ⟨A6,c6,rfl,h6,_,hb⟩;have H6:=zh h6;have B4:=zh (B3.out.trans (hb.mono B3.out.size));have H5:=zh (H5.out.next hb);clear h6 hb))
 have BW:=zh (BV.out.trans (B4.out.mono BV.out.size));have xd:=(HHC.out w4 BW.out).1;have e1:(d != d)=false:=by simp
 have e2:((n:Int) != (n:Int))=false:=by simp
 have n9:(n:Int)<=4294967296:=by have:=HNN.out;omega
 go_wp2;go_loopw [10] (fun v10 wr=>∃i:Nat,i<=n/\v10=.int .i64 i/\Below w4.heap.size w4 wr) (fun v10 _=>n-(intOf v10).toNat)
 case atStart=>exact⟨0,by omega,rfl,Below.refl _ _⟩
 case round=>
  obtain⟨i,hi,rfl,hb⟩:=hrel;have HB:=zh hb;have i0:(0:Int)<=(i:Int):=by omega
  clear hb xd e1 e2;by_cases hlt:i < n
  ·have i1:(i:Int) < (n:Int):=by omega
   obtain⟨b5,o5,rfl,hb5,hc5⟩:=HSC2.out w4 A5 c5 H5.out i hlt;obtain⟨b6,o6,rfl,hb6,hc6⟩:=HSC2.out w4 A6 c6 H6.out i hlt;have HC5:=zh (show ∀W,Below w4.heap.size w4 W->W.cell? ⟨b5,o5+i,none⟩=some (.bool (SV1 i))/\W.cell? ⟨b6,o6+i,none⟩=some (.bool (SV1 i))from fun W hW=>⟨(hW.cell (p:=⟨b5,o5+i,none⟩) hb5).trans hc5,(hW.cell (p:=⟨b6,o6+i,none⟩) hb6).trans hc6⟩);obtain⟨sv,hsv⟩:∃q,q=SV1 i:=⟨_,rfl⟩
   rw[<-hsv]at HC5;clear hb5 hc5 hb6 hc6 hsv;go_upto_region 9 with (fail)
   have HII:=zh (And.intro i0 i1);clear i1;refine wp_region_held_drew (S:=fun w'=>Below w4.heap.size w4 w') (by kernel_rfl) (HB.out.drew) (fun hHeld=>?_);obtain⟨u0,hu0⟩:∃u0,u0=wr.drew:=⟨_,rfl⟩
   rw[<-hu0];rw[<-hu0]at hHeld;clear hu0;refine tkR (i:=0) (x:=some 42) (v:=.slice (some ⟨b5,o5,none⟩) n c5) rfl ?_;refine tkR (i:=1) (x:=some 43) (v:=.int .i64 (i:Int)) rfl ?_;refine tkY (i:=2) (x:=some 44) (v:=.pointer (some ⟨b5,o5+i,none⟩)) rfl (.inl ⟨by rfl,fun W hW=>(by have i1:=HII.out.2;have i0:=HII.out.1;go_simp)⟩) ?_;refine tkY (i:=3) (x:=some 45) (v:=.bool sv) rfl (.inl ⟨by rfl,fun W hW=>(by have:=(HC5.out W hW).1;go_simp)⟩) ?_;refine tkR (i:=4) (x:=some 46) (v:=.slice (some ⟨b6,o6,none⟩) n c6) rfl ?_;refine tkR (i:=5) (x:=some 47) (v:=.int .i64 (i:Int)) rfl ?_;refine tkY (i:=6) (x:=some 48) (v:=.pointer (some ⟨b6,o6+i,none⟩)) rfl (.inl ⟨by rfl,fun W hW=>(by have i1:=HII.out.2;have i0:=HII.out.1;go_simp)⟩) ?_;refine tkY (i:=7) (x:=some 49) (v:=.bool sv) rfl (.inl ⟨by rfl,fun W hW=>(by have:=(HC5.out W hW).2;go_simp)⟩) ?_;refine tkY (i:=8) (x:=some 50) (v:=.bool false) rfl (.inl ⟨by rfl,fun W hW=>(by cases sv<;>go_simp)⟩) ?_;refine wpAnyH_done (by kernel_rfl) ?_ _;have HB2:=zh hHeld;clear hHeld;have i1:=HII.out.2;go_wp2;go_roundw
   case rel=>exact⟨i+1,hlt,by go_num,HB2.out⟩
   case measure=>simp[intOf];omega
  ·obtain rfl:n=i:=by omega
   have i1:¬(n:Int) < (n:Int):=by omega
   go_upto_region 11 with (fail)
   clear hlt hi i0 i1 n9;have BX:=zh (BW.out.trans (HB.out.mono BW.out.size));have HCR:=zh (show ∀W',KeepF (fun k=>k=g) wr W'->W'.rangeAt cb 0 CA.toList from fun W' hW=>by
    have hb:=HCB.out.below (B4.out.trans (HB.out.mono B4.out.size)) HCB.out.lt;have h1:Blk W' cb 25 CA:=(hW.block cb hb.lt (HCG.out)).trans hb
    exact h1.range _ (by simp))
   have HH0:=zh (show ∀W',KeepF (fun k=>k=g) wr W'->W'.heap[h]? = wr.heap[h]? from fun W' hW=>hW.block h (by
    have h1:=(HHC.out wr BX.out).1
    exact World.block_lt_of_cell? wr _ h1) HHG.out)
   have HHR2:=zh (show ∀W',KeepF (fun k=>k=g) wr W'->W'.rangeAt h 0 CA.toList from fun W' hW j x hx=>by
    rw[World.cell?_of_block (a:=⟨h,0+j,none⟩) (HH0.out W' hW)]
    exact HHR.out wr BX.out j x hx)
   have HC47:=zh (show ∀W',KeepF (fun k=>k=g) wr W'->W'.cell? ⟨h,47,none⟩=some (.int .i64 dup)from fun W' hW=>(World.cell?_of_block (a:=⟨h,47,none⟩) (HH0.out W' hW)).trans (HHC.out wr BX.out).2);refine wp_region_held_drew (S:=fun w'=>KeepF (fun k=>k=g) wr w') (by kernel_rfl) (KeepF.refl.drew) (fun hHeld=>?_);obtain⟨u0,hu0⟩:∃u0,u0=wr.drew:=⟨_,rfl⟩
   have HU0:=zh (show Below w.heap.size w u0 from by rw[hu0];exact BX.out.drew);rw[<-hu0];rw[<-hu0]at hHeld;clear hu0;refine tkR (i:=0) (x:=some 51) (v:=.int .i64 0) rfl ?_;refine tkR (i:=1) (x:=some 52) (v:=.bool true) rfl ?_;refine tkR (i:=2) (x:=some 53) (v:=.bool true) rfl ?_;refine' tkY (i:=3) (x:=some 54) (v:=_) rfl (yieldsIf_load_mid (by rfl) _ _ rfl cb 0 rfl CA.toList _ (fun W hW=>HCR.out W hW) HU.out rfl HSL.out) ?_;refine tkR (i:=4) (x:=some 55) (v:=.pointer (some ⟨h,0,none⟩)) rfl ?_;refine tkS (i:=5) (x:=some 56) (v:=.pointer (some ⟨h,0,none⟩)) rfl ?_;refine tkS (i:=6) (x:=some 57) (v:=.pointer (some ⟨h,0,none⟩)) rfl ?_;refine' tkY (i:=7) (x:=some 58) (v:=_) rfl (yieldsIf_load_mid (by rfl) _ _ rfl h 0 rfl CA.toList _ (fun W hW=>HHR2.out W hW) HU.out rfl HSL.out) ?_;refine tkY (i:=8) (x:=some 59) (v:=.bool true) rfl (.inl ⟨by rfl,fun W hW=>(by exact exec_cfg_self s.C W _ _ _ _ rfl _ (by rw[<-HCA.out];first | rfl | simp) (by rw[<-HCA.out];first | rfl | simp))⟩) ?_;refine tkS (i:=9) (x:=some 60) (v:=.bool true) rfl ?_;refine tkR (i:=10) (x:=some 61) (v:=.bool true) rfl ?_;refine tkR (i:=11) (x:=some 62) (v:=.pointer (some ⟨g,0,none⟩)) rfl ?_;refine tkR (i:=13) (x:=some 64) (v:=.pointer (some ⟨h,0,none⟩)) rfl ?_;refine rdH (i:=12) (x:=some 63) rfl fun K hK=>?_;go_simp;refine(HTX2.out u0 HU0.out).mono ?_;rintro e u1 ⟨A7,c7,rfl,_,hC7,hB⟩;dsimp only;have HH:=zh (hHeld.trans (KeepF.of_below (F:=fun k=>k=g) hB) (fun _ _ h=>h));have HU1:=zh (HU0.out.trans (hB.mono HU0.out.size));have HC7:=zh hC7;clear hC7;clear hB;refine hK.out _ _ (HH.out) (fun hHeld=>?_);clear hK K HH
   try simp only[Act.put,qa,qb,qc]
   refine rdH (i:=14) (x:=some 65) rfl fun K hK=>?_;go_simp;refine(HVX2.out u1 HU1.out).mono ?_;rintro e u2 ⟨A8,c8,rfl,_,hC8,hB⟩;dsimp only;have HH:=zh (hHeld.trans (KeepF.of_below (F:=fun k=>k=g) hB) (fun _ _ h=>h));have HU2:=zh (HU1.out.trans (hB.mono HU1.out.size));have HC8:=zh hC8;have HC7:=zh (HC7.out.below hB);clear hC8;clear hB;refine hK.out _ _ (HH.out) (fun hHeld=>?_);clear hK K HH
   try simp only[Act.put,qa,qb,qc]
   refine rdH (i:=15) (x:=some 66) rfl fun K hK=>?_;go_simp;refine(HSF.out u2 A7 A8 c7 c8 HC7.out HC8.out).mono ?_;rintro e u3 ⟨rfl,hB⟩;dsimp only;have HH:=zh (hHeld.trans (KeepF.of_below (F:=fun k=>k=g) hB) (fun _ _ h=>h));have HU3:=zh (HU2.out.trans (hB.mono HU2.out.size));clear hB;refine hK.out _ _ (HH.out) (fun hHeld=>?_);clear hK K HH
   try simp only[Act.put,qa,qb,qc]
   refine tkS (i:=16) (x:=some 67) (v:=.bool true) rfl ?_;refine tkR (i:=17) (x:=some 68) (v:=.bool true) rfl ?_;refine tkR (i:=18) (x:=some 69) (v:=.pointer (some ⟨g,0,none⟩)) rfl ?_;refine tkR (i:=20) (x:=some 71) (v:=.pointer (some ⟨h,0,none⟩)) rfl ?_;refine tkS (i:=21) (x:=some 72) (v:=.pointer (some ⟨h,0,none⟩)) rfl ?_;refine tkS (i:=22) (x:=some 73) (v:=.pointer (some ⟨h,47,none⟩)) rfl ?_;refine tkY (i:=23) (x:=some 74) (v:=.int .i64 dup) rfl (.inl ⟨by rfl,fun W hW=>(by have:=HC47.out W hW;go_simp)⟩) ?_;refine rdH (i:=19) (x:=some 70) rfl fun K hK=>?_;go_simp;refine(HDU.out u3 HU3.out).mono ?_;rintro e u4 ⟨rfl,rfl⟩;dsimp only;have HH:=zh hHeld;refine hK.out _ _ (HH.out) (fun hHeld=>?_);clear hK K HH
   try simp only[Act.put,qa,qb,qc]
   refine tkS (i:=24) (x:=some 75) (v:=.bool true) rfl ?_;refine tkS (i:=25) (x:=some 76) (v:=.bool true) rfl ?_;refine tkR (i:=26) (x:=some 77) (v:=.bool true) rfl ?_;refine tkR (i:=27) (x:=some 78) (v:=.pointer (some ⟨g,0,none⟩)) rfl ?_;refine rdH (i:=28) (x:=some 79) rfl fun K hK=>?_;go_simp;refine(HFD.out u3 HU3.out).mono ?_;rintro e u5 ⟨rfl,hp5,hk5⟩;dsimp only;have HH:=zh (hHeld.trans hk5 (fun _ _ h=>h));have HP5:=zh hp5;have HK5:=zh hk5;clear hp5 hk5;refine hK.out _ _ (HH.out) (fun hHeld=>?_);clear hK K HH
   try simp only[Act.put,qa,qb,qc]
   refine tkS (i:=29) (x:=some 80) (v:=.int .i64 0) rfl ?_;refine tkS (i:=30) (x:=some 81) (v:=.bool true) rfl ?_;refine tkS (i:=31) (x:=some 82) (v:=.bool true) rfl ?_;refine tkR (i:=32) (x:=some 4) (v:=.bool true) rfl ?_;refine wpAnyH_done (by kernel_rfl) ?_ _;have HE:=zh hHeld;clear hHeld;go_wp2;go_ret
   exact⟨rfl,HP5.out,(KeepF.of_below (F:=fun k=>k=g) HU3.out).trans HK5.out (fun _ _ h=>h)⟩
end
structure PI6 (i:Nat) (s:RS) (U:List (Nat->Int)):Prop where
 ri:RI i s U
 ul:U.length<=i
 rl:s.RL
 wh:WholeS s
theorem PI6.call {i:Nat} {s:RS} {U:List (Nat->Int)} (h:PI6 i s U) (hok:s.Ok) {w:World} {x:St6} (hx:St6Ok w x):PI6 (i+1) (s.call6 U x).s (s.call6 U x).U:=by
 have h1:=h.ri.call hx;have hu:=h.ul;refine⟨h1,?_,?_,?_⟩
 ·unfold RS.call6
  split
  ·show U.length<=i+1;omega
  split
  ·show U.length<=i+1;omega
  split
  ·split
   ·show U.length<=i+1;omega
   ·show(U++[x.key]).length<=i+1;rw[List.length_append];simp;omega
  ·show U.length<=i+1;omega
 ·unfold RS.call6
  split
  ·exact receive_rl h.rl _ _ _
  split
  ·exact tick_rl h.rl _
  split
  ·split
   ·exact h.rl
   ·exact h.rl
  ·exact h.rl
 ·unfold RS.call6
  split
  ·exact receive_whole h.wh h.rl hok.limit.2 _ (fun j hj=>nf_lt hx.byte hj)
  split
  ·exact tick_whole h.wh h.rl hok.limit.2 _
  split
  ·split
   ·exact h.wh
   ·exact h.wh.same ⟨rfl,rfl,rfl⟩
  ·exact h.wh
theorem PI6.res {i:Nat} {s:RS} {U:List (Nat->Int)} (h:PI6 i s U) (hi:1<=i) {w:World} {x:St6} (hx:St6Ok w x) (XX:Obj):PI6 (i+1) (rresS (s.C.keys x.key x.code) XX s.deliver s.next s.L) [x.key]:=by
 have hf:=h.ri.few
 exact⟨⟨⟨fun j hj=>hx.key j hj,fun j hj=>hx.code j hj⟩,h.ri.val,h.ri.cm,rfl,by show s.L.length<=i+1;omega,by show(0:Int)<=((i+1:Nat):Int);omega⟩,by show 1<=i+1;omega,fun hr=>(by cases hr),h.wh.same ⟨rfl,rfl,rfl⟩⟩
theorem cArr_keys6 (C:Cfg) (f c:Nat->Int):tsAll (tsAll C.arr 2 (kArr f).toList) 18 (kArr c).toList=(C.keys f c).arr:=by
 have l1:(kArr f).toList.length=16:=rfl;have l2:(kArr c).toList.length=16:=rfl;have hs:=C.arr_size;apply Array.ext_getElem?;intro j;by_cases h1:18<=j/\j < 34
 ·have:=tsAll_in (kArr c).toList 18 (tsAll C.arr 2 (kArr f).toList) (j-18) (by omega) (by rw[tsAll_size,hs];omega);rw[show 18+(j-18)=j by omega]at this;rw[this,Array.getElem?_toList,kArr_at c _ (by omega),Cfg.arr_at _ (by omega)];unfold Cfg.cell;rw[if_neg (by omega),if_neg (by omega),if_neg (by omega),if_pos (by omega)]
  rfl
 ·rw[tsAll_out _ _ _ _ (by omega)];by_cases h2:2<=j/\j < 18
  ·have:=tsAll_in (kArr f).toList 2 C.arr (j-2) (by omega) (by rw[hs];omega);rw[show 2+(j-2)=j by omega]at this;rw[this,Array.getElem?_toList,kArr_at f _ (by omega),Cfg.arr_at _ (by omega)];unfold Cfg.cell;rw[if_neg (by omega),if_neg (by omega),if_pos (by omega)]
   rfl
  ·rw[tsAll_out _ _ _ _ (by omega)];by_cases h3:j < 39
   ·rw[C.arr_at h3,Cfg.arr_at _ h3];unfold Cfg.cell Cfg.keys;by_cases h4:j < 18
    ·have:j=0\/j=1:=by omega
     rcases this with rfl | rfl<;>rfl
    ·have:j=34\/j=35\/j=36\/j=37\/j=38:=by omega
     rcases this with rfl | rfl | rfl | rfl | rfl<;>rfl
   ·rw[Array.getElem?_eq_none (by omega),Array.getElem?_eq_none (by rw[(C.keys f c).arr_size];omega)]
def PlayO6 (w0:World) (i:Nat) (e:Ending) (w':World):Prop:=∃g h,e=.returned (.tuple #[.pointer (some ⟨g,0,none⟩),.pointer (some ⟨h,0,none⟩)])/\∃s U,PRX w0 w' g h s s U (fun _=>False)/\PI6 i s U
section
variable {w0 w:World} {g h:Nat} {s:RS} {U:List (Nat->Int)} {i:Nat}
theorem play6_ok (hp:PRX w0 w g h s s U (fun _=>False)) (hi:PI6 i s U) (hi1:1<=i) (hi9:i<=240) (x:St6) (hx:St6Ok w0 x) (XC:Array Value) (hXs:(Tryz.prog.info? 57).map (·.size)=some XC.size) (hX:∀j,j < 35->XC[j]? = some (x.cell j)) :
  Calls Tryz.prog 25 #[.pointer (some ⟨g,0,none⟩),.pointer (some ⟨h,0,none⟩),.agg XC] w (PlayO6 w0 (i+1)):=by
 have hok:=hp.ok;have HP:=zh hp;have HI:=zh hi;have HI1:=zh hi1;have HF:=zh (hi.ri.fine (by omega));have HL9:=zh (show s.L.length<=249 by have:=hi.ri.few;omega);have HIC:=zh (hi.call hok hx);have HX:=zh hx;have HXC:=zh hX;have HUK:=zh Tryz.underlying23;have HSK1:=zh (k_size x.key);have HSK2:=zh (k_size x.code);obtain⟨kd,hkd⟩:∃k,k=x.kind:=⟨_,rfl⟩
 obtain⟨nw,hnw⟩:∃k,k=x.now:=⟨_,rfl⟩
 obtain⟨A,hA⟩:∃k,k=x.A:=⟨_,rfl⟩
 obtain⟨n,hn⟩:∃k,k=x.n:=⟨_,rfl⟩
 obtain⟨c,hc⟩:∃k,k=x.c:=⟨_,rfl⟩
 obtain⟨z,hz⟩:∃k,k=nf x.z:=⟨_,rfl⟩
 obtain⟨kf,hkf⟩:∃k,k=x.key:=⟨_,rfl⟩
 obtain⟨kc,hkc⟩:∃k,k=x.code:=⟨_,rfl⟩
 have HZ:=zh (show(∀j,j < x.n->nf x.z j < 256)/\Row w0 w0.heap.size x.A x.n (fun j=>.int .u8 ((nf x.z j:Nat):Int))from ⟨fun j hj=>nf_lt hx.byte hj,fun h0=>by
  obtain⟨b,o,e,hb,hcl⟩:=hx.row h0
  exact⟨b,o,e,hb,fun j hj=>by rw[hcl j hj];show some (Value.int .u8 (x.z j))=some (Value.int .u8 ((nf x.z j:Nat):Int));rw[nf_cast hx.byte hj]⟩⟩)
 have HMX:=zh (And.intro hx.mx hx.cap);rw[<-hn,<-hc]at HMX;rw[<-hz,<-hA,<-hn]at HZ;rw[<-hkf]at HSK1;rw[<-hkc]at HSK2;have HE0:=zh (show x.cell 0=.int .i64 kd/\x.cell 1=.int .i64 nw/\x.cell 2=.slice A n c from ⟨by rw[hkd];rfl,by rw[hnw];rfl,by rw[hA,hn,hc];rfl⟩);have HE1:=zh (show(∀j,j < 16->x.cell (3+j)=.int .u8 (kf j))/\∀j,j < 16->x.cell (19+j)=.int .u8 (kc j)from ⟨fun j hj=>by
  unfold St6.cell;rw[if_neg (by omega),if_neg (by omega),if_neg (by omega),if_pos (by omega),show 3+j-3=j by omega,hkf],fun j hj=>by
  unfold St6.cell;rw[if_neg (by omega),if_neg (by omega),if_neg (by omega),if_neg (by omega),show 19+j-19=j by omega,hkc]⟩)
 have HQ1:=zh (show kd=1->s.call6 U x=⟨(s.receive nw n z).1,(s.receive nw n z).2.1,(s.receive nw n z).2.2,U⟩from fun e=>by unfold RS.call6;rw[if_pos (hkd.symm.trans e),hnw,hn,hz]);have HQ2:=zh (show kd=2->s.call6 U x=⟨(s.tick nw).1,(s.tick nw).2.1,(s.tick nw).2.2,U⟩from fun e=>by unfold RS.call6;rw[if_neg (by rw[<-hkd,e];decide),if_pos (hkd.symm.trans e),hnw]);have HQ3:=zh (show kd=3->(s.call6 U x).s=(s.rekey6 U kf kc).2.1/\(s.call6 U x).U=(s.rekey6 U kf kc).2.2 from fun e=>by
  unfold RS.call6 RS.rekey6;rw[if_neg (by rw[<-hkd,e];decide),if_neg (by rw[<-hkd,e];decide),if_pos (hkd.symm.trans e),hkf,hkc]
  split<;>exact⟨rfl,rfl⟩)
 have HQ5:=zh (show kd ≠ 1->kd ≠ 2->kd ≠ 3->s.call6 U x=⟨[],0,s,U⟩from fun e1 e2 e3=>by unfold RS.call6;rw[if_neg (by rw[<-hkd];exact e1),if_neg (by rw[<-hkd];exact e2),if_neg (by rw[<-hkd];exact e3)]);have HRS:=zh (fun XX=>hi.res hi1 hx XX);rw[<-hkf,<-hkc]at HRS;clear hp hi hx hX hok hkd hnw hA hn hc hz hkf hkc hXs hi1;go_enter Tryz.func25,Tryz.ntmps25;go_upto_region 1 with (fail)
 obtain⟨xb,hxb⟩:∃xb,xb=w.heap.size:=⟨_,rfl⟩
 refine wp_let (fun V=>Blk V xb 57 XC/\Below w.heap.size w V) ⟨by rw[hxb];exact Blk.new _ _ _,(Below.refl _ w).alloc (Nat.le_refl _) _⟩ ?_;rintro V ⟨b1,b2⟩;rw[<-hxb];have HPV:=zh (HP.out.add b2 xb (Nat.le_of_eq hxb.symm) b1.lt);have HBW:=zh b2;have HC:=zh (show ∀W:World,W.heap[xb]? = V.heap[xb]?->W.cell? ⟨xb,1,none⟩=some (.int .i64 nw)/\W.cell? ⟨xb,2,none⟩=some (.slice A n c)from fun W hW=>by
  have hb:Blk W xb 57 XC:=hW.trans b1
  exact⟨(hb.cell 1).trans ((HXC.out 1 (by decide)).trans (by rw[HE0.out.2.1])),(hb.cell 2).trans ((HXC.out 2 (by decide)).trans (by rw[HE0.out.2.2]))⟩)
 have HR1:=zh (show ∀W:World,W.heap[xb]? = V.heap[xb]?->W.rangeAt xb 3 (kArr kf).toList from fun W hW j y hy=>by
  have hb:Blk W xb 57 XC:=hW.trans b1;have hj:j < 16:=(List.getElem?_eq_some_iff.1 hy).1;rw[hb.cell,HXC.out _ (by omega),HE1.out.1 j hj,<-hy,Array.getElem?_toList,kArr_at _ j hj])
 have HR2:=zh (show ∀W:World,W.heap[xb]? = V.heap[xb]?->W.rangeAt xb 19 (kArr kc).toList from fun W hW j y hy=>by
  have hb:Blk W xb 57 XC:=hW.trans b1;have hj:j < 16:=(List.getElem?_eq_some_iff.1 hy).1;rw[hb.cell,HXC.out _ (by omega),HE1.out.2 j hj,<-hy,Array.getElem?_toList,kArr_at _ j hj])
 have x0:V.cell? ⟨xb,0,none⟩=some (.int .i64 kd):=(b1.cell 0).trans ((HXC.out 0 (by decide)).trans (by rw[HE0.out.1]));obtain⟨x1,x2⟩:=HC.out V rfl;obtain⟨KF,hKF⟩:∃KF,KF=kArr kf:=⟨_,rfl⟩
 obtain⟨KC,hKC⟩:∃KC,KC=kArr kc:=⟨_,rfl⟩
 have HKF:=zh hKF;have HKC:=zh hKC;rw[<-hKF]at HR1 HSK1;rw[<-hKC]at HR2 HSK2;clear b1 b2 hxb hKF hKC;by_cases q1:kd=1
 ·subst q1;have HRC:=zh (HPV.out.receive HF.out HL9.out HI.out.rl nw A n c z HMX.out.1 HMX.out.2 HZ.out.1 HZ.out.2);obtain⟨rr,hrr⟩:∃rr,rr=s.receive nw n z:=⟨_,rfl⟩
  rw[<-hrr]at HRC HQ1;clear hrr;go_upto_region 5 with (first
   | (go_at_call 11;refine(HRC.out).mono ?_;rintro e u1 ⟨A5,c5,n5,rfl,hn5,hk5,hC2⟩;have HC2:=zh hC2;have HN5:=zh hn5;obtain⟨y1,y2⟩:=HC.out u1 (hk5 xb (.inr rfl));clear hn5 hk5 hC2)
   | (go_at_call 51;refine(HC2.out).mono ?_;rintro e u2 ⟨A6,c6,rfl,hsm,hp2,hk6⟩;have HSM:=zh (samel_true A5 A6 n5 c5 c6 u2 HN5.out hsm);have HP2:=zh hp2;clear hsm hp2 hk6))
  obtain⟨er,her⟩:∃q,q=rr.2.1:=⟨_,rfl⟩
  rw[<-her];have g1:(er != er)=false:=by simp
  clear x0 x1 x2 her;go_wp2_with (go_at_call 14;refine(HSM.out).mono ?_;rintro e u3 ⟨rfl,hB⟩;have HB3:=zh hB;clear hB);go_ret2;have hic:=HIC.out;rw[HQ1.out (by trivial)]at hic
  exact⟨g,h,rfl,rr.2.2,U,(HP2.out.below HB3.out).less (fun k hk=>hk.elim),hic⟩
 have t1:(kd == 1)=false:=by simpa using q1
 by_cases q2:kd=2
 ·subst q2;clear q1 t1;have HRC:=zh (HPV.out.tick HF.out HI.out.rl nw);obtain⟨rr,hrr⟩:∃rr,rr=s.tick nw:=⟨_,rfl⟩
  rw[<-hrr]at HRC HQ2;clear hrr;go_upto_region 10 with (first
   | (go_at_call 13;refine(HRC.out).mono ?_;rintro e u1 ⟨A5,c5,n5,rfl,hn5,hk5,hC2⟩;have HC2:=zh hC2;have HN5:=zh hn5;obtain⟨y1,y2⟩:=HC.out u1 (hk5 xb (.inr rfl));clear hn5 hk5 hC2)
   | (go_at_call 52;refine(HC2.out).mono ?_;rintro e u2 ⟨A6,c6,rfl,hsm,hp2,hk6⟩;have HSM:=zh (samel_true A5 A6 n5 c5 c6 u2 HN5.out hsm);have HP2:=zh hp2;clear hsm hp2 hk6))
  obtain⟨er,her⟩:∃q,q=rr.2.1:=⟨_,rfl⟩
  rw[<-her];have g1:(er != er)=false:=by simp
  clear x0 x1 x2 her;go_wp2_with (go_at_call 14;refine(HSM.out).mono ?_;rintro e u3 ⟨rfl,hB⟩;have HB3:=zh hB;clear hB);go_ret2;have hic:=HIC.out;rw[HQ2.out (by trivial)]at hic
  exact⟨g,h,rfl,rr.2.2,U,(HP2.out.below HB3.out).less (fun k hk=>hk.elim),hic⟩
 have t2:(kd == 2)=false:=by simpa using q2
 by_cases q3:kd=3
 ·subst q3;clear x1 x2 q1 q2 t1 t2;have hu9:U.length<=1000000:=by have:=HI.out.ul;omega
  have HTF:=zh (fun(u:World) (hp:PRX w0 u g h s s U (fun k=>False\/k=xb))=>hp.tfresh kf);have HUF:=zh (fun(u:World) (hp:PRX w0 u g h s s U (fun k=>False\/k=xb))=>hp.vfresh hu9 kf);have HTR:=zh (fun(u:World) (hp:PRX w0 u g h s s U (fun k=>False\/k=xb))=>hp.trekey HI.out.ri.cm kf kc);have HUR:=zh (fun(u:World) (hp:PRX w0 u g h (s.rekey6 U kf kc).2.1 s U (fun k=>False\/k=xb))=>hp.vrekey hu9 kf kc);rw[<-HKF.out]at HTF HUF HTR HUR;rw[<-HKC.out]at HTR HUR;obtain⟨hk0,hhk⟩:∃q,q = !hasKey kf U:=⟨_,rfl⟩
  obtain⟨re,hre⟩:∃q,q=(s.rekey6 U kf kc).1:=⟨_,rfl⟩
  rw[<-hhk]at HTF HUF;rw[<-hre]at HTR HUR;clear hhk hre hu9;go_upto_region 13 with (fail)
  clear x0;refine wp_region_held_drew (S:=fun w'=>w'.heap[xb]? = V.heap[xb]?) (by kernel_rfl) rfl (fun hHeld=>?_);obtain⟨u0,hu0⟩:∃u0,u0=V.drew:=⟨_,rfl⟩
  have HP0:=zh (HPV.out.below (w':=u0) (by rw[hu0];exact(Below.refl _ V).drew));have hxl:=HP0.out.lt (k:=xb) (.inr rfl);rw[<-hu0];rw[<-hu0]at hHeld;clear hu0;refine tkR (i:=0) (x:=some 77) (v:=.pointer (some ⟨g,0,none⟩)) rfl ?_;refine tkS (i:=1) (x:=some 78) (v:=.pointer (some ⟨xb,3,none⟩)) rfl ?_;refine' tkY (i:=2) (x:=some 79) (v:=_) rfl (yieldsIf_load_mid (by rfl) _ _ rfl xb 3 rfl KF.toList _ (fun w h=>HR1.out w h) HUK.out rfl HSK1.out) ?_;refine tkR (i:=4) (x:=some 81) (v:=.pointer (some ⟨h,0,none⟩)) rfl ?_;refine tkS (i:=5) (x:=some 82) (v:=.pointer (some ⟨xb,3,none⟩)) rfl ?_;refine' tkY (i:=6) (x:=some 83) (v:=_) rfl (yieldsIf_load_mid (by rfl) _ _ rfl xb 3 rfl KF.toList _ (fun w h=>HR1.out w h) HUK.out rfl HSK1.out) ?_;refine rdH (i:=3) (x:=some 80) rfl fun K hK=>?_;go_simp;refine(HTF.out u0 HP0.out).mono ?_;rintro e u1 ⟨rfl,hB⟩;dsimp only;have HH:=zh ((hB.block xb hxl).trans hHeld);have HP1:=zh (HP0.out.below hB);have hxl:=HP1.out.lt (k:=xb) (.inr rfl);clear hB;refine hK.out _ _ HH.out (fun hHeld=>?_);clear hK K HH
  try simp only[Act.put,qa,qb,qc]
  refine rdH (i:=7) (x:=some 84) rfl fun K hK=>?_;go_simp;refine(HUF.out u1 HP1.out).mono ?_;rintro e u2 ⟨rfl,hB⟩;dsimp only;have HH:=zh ((hB.block xb hxl).trans hHeld);have HP2:=zh (HP1.out.below hB);clear hB;refine hK.out _ _ HH.out (fun hHeld=>?_);clear hK K HH
  try simp only[Act.put,qa,qb,qc]
  refine tkY (i:=8) (x:=some 85) (v:=.bool false) rfl (.inl ⟨by rfl,fun W hW=>(by cases hk0<;>go_simp)⟩) ?_;refine tkR (i:=9) (x:=some 86) (v:=.bool false) rfl ?_;refine tkR (i:=10) (x:=some 87) (v:=.pointer (some ⟨g,0,none⟩)) rfl ?_;refine tkS (i:=11) (x:=some 88) (v:=.pointer (some ⟨xb,3,none⟩)) rfl ?_;refine' tkY (i:=12) (x:=some 89) (v:=_) rfl (yieldsIf_load_mid (by rfl) _ _ rfl xb 3 rfl KF.toList _ (fun w h=>HR1.out w h) HUK.out rfl HSK1.out) ?_;refine tkS (i:=13) (x:=some 90) (v:=.pointer (some ⟨xb,19,none⟩)) rfl ?_;refine' tkY (i:=14) (x:=some 91) (v:=_) rfl (yieldsIf_load_mid (by rfl) _ _ rfl xb 19 rfl KC.toList _ (fun w h=>HR2.out w h) HUK.out rfl HSK2.out) ?_;refine tkR (i:=16) (x:=some 93) (v:=.pointer (some ⟨h,0,none⟩)) rfl ?_;refine tkS (i:=17) (x:=some 94) (v:=.pointer (some ⟨xb,3,none⟩)) rfl ?_;refine' tkY (i:=18) (x:=some 95) (v:=_) rfl (yieldsIf_load_mid (by rfl) _ _ rfl xb 3 rfl KF.toList _ (fun w h=>HR1.out w h) HUK.out rfl HSK1.out) ?_;refine tkS (i:=19) (x:=some 96) (v:=.pointer (some ⟨xb,19,none⟩)) rfl ?_;refine' tkY (i:=20) (x:=some 97) (v:=_) rfl (yieldsIf_load_mid (by rfl) _ _ rfl xb 19 rfl KC.toList _ (fun w h=>HR2.out w h) HUK.out rfl HSK2.out) ?_;refine rdH (i:=15) (x:=some 92) rfl fun K hK=>?_;go_simp;refine(HTR.out u2 HP2.out).mono ?_;rintro e u3 ⟨rfl,hO⟩;dsimp only;have HH:=zh ((hO.2 xb (.inr rfl)).trans hHeld);have HP3:=zh hO.1;clear hO;refine hK.out _ _ HH.out (fun hHeld=>?_);clear hK K HH
  try simp only[Act.put,qa,qb,qc]
  refine rdH (i:=21) (x:=some 98) rfl fun K hK=>?_;go_simp;refine(HUR.out u3 HP3.out).mono ?_;rintro e u4 ⟨rfl,hO⟩;dsimp only;have HH:=zh ((hO.2 xb (.inr rfl)).trans hHeld);have HP4:=zh hO.1;clear hO;refine hK.out _ _ HH.out (fun hHeld=>?_);clear hK K HH
  try simp only[Act.put,qa,qb,qc]
  refine tkS (i:=22) (x:=some 99) (v:=.bool false) rfl ?_;refine tkS (i:=23) (x:=some 100) (v:=.bool false) rfl ?_;refine wpAnyH_done (by kernel_rfl) ?_ _;clear hHeld hxl;go_wp2;go_ret2;have hic:=HIC.out;rw[(HQ3.out (by trivial)).1,(HQ3.out (by trivial)).2]at hic
  exact⟨g,h,rfl,_,_,HP4.out.less (fun k hk=>hk.elim),hic⟩
 have t3:(kd == 3)=false:=by simpa using q3
 by_cases q4:kd=4
 ·subst q4;clear x1 x2 q1 q2 q3 t1 t2 t3;have HS39:Hid ((Tryz.prog.info? 25).map (·.size)=some s.C.arr.toList.length):=zh (by rw[Array.length_toList,s.C.arr_size];exact infoPd);have HS38:Hid ((Tryz.prog.info? 25).map (·.size)=some s.C.arr.size):=zh (by rw[s.C.arr_size];exact infoPd);have HSN:Hid ((Tryz.prog.info? 25).map (·.size)=some (s.C.keys kf kc).arr.toList.length):=zh (by rw[Array.length_toList,Cfg.arr_size];exact infoPd);have HO:Hid (s.C.arr.all (·.oneCell')=true):=zh s.C.arr_one;have HZZ:Hid (z39.size=s.C.arr.size):=zh (by rw[s.C.arr_size];rfl);have HU:=zh Tryz.underlying25;have HHR:=zh (show V.rangeAt h 0 s.C.arr.toList from by
   obtain⟨M,R,A0,c0,l0,uA,uc,m3,_⟩:=HPV.out;intro j y hy;have hj:j < 39:=by have:=(List.getElem?_eq_some_iff.1 hy).1;simpa[Cfg.arr_size]using this
   rw[Nat.zero_add,m3.cC hj,<-hy,Array.getElem?_toList,s.C.arr_at hj])
  have HCK:=zh (cArr_keys6 s.C kf kc);have HAS:=zh s.C.arr_size;have hv:(s.C.keys kf kc).Valid:=HI.out.ri.val;have HMV:=zh (fun(u:World) (hp:PRX w0 u g h s s U (fun k=>(False\/k=xb)\/k=V.heap.size))=>hp.move HI.out.wh (by have:=HL9.out;omega) (s.C.keys kf kc) hv);have HRS2:Hid (∀XX,PI6 (i+1) (rresS (s.C.keys kf kc) XX s.deliver s.next s.L) [(s.C.keys kf kc).key]):=HRS;obtain⟨CA,hCA⟩:∃CA,CA=s.C.arr:=⟨_,rfl⟩
  obtain⟨CK,hCK⟩:∃CK,CK=(s.C.keys kf kc).arr:=⟨_,rfl⟩
  rw[<-hCA]at HS39 HS38 HO HZZ HHR HCK HAS;rw[<-hCK]at HSN HCK HMV;rw[<-HKF.out,<-HKC.out]at HCK;obtain⟨d,hd⟩:∃x,x=s.deliver:=⟨_,rfl⟩
  obtain⟨nx,hnx⟩:∃x,x=s.next:=⟨_,rfl⟩
  obtain⟨m,hm⟩:∃x,x=s.L.length:=⟨_,rfl⟩
  rw[<-hd,<-hnx,<-hm]at HMV;rw[<-hd,<-hnx]at HRS2;have HSKF:Hid ((Tryz.prog.info? 23).map (·.size)=some KF.size):=zh (by rw[HKF.out];kernel_rfl);have HSKC:Hid ((Tryz.prog.info? 23).map (·.size)=some KC.size):=zh (by rw[HKC.out];kernel_rfl);have HOK:Hid (KF.all (·.oneCell')=true):=zh (by rw[HKF.out];exact k_one kf);have HOC:Hid (KC.all (·.oneCell')=true):=zh (by rw[HKC.out];exact k_one kc);clear hv hCA hCK hd hnx hm;obtain⟨cb,hcb⟩:∃cb,cb=V.heap.size:=⟨_,rfl⟩
  rw[<-hcb]at HMV;go_upto_region 17 with (first
   | (refine wpList_load_mid rfl _ _ rfl h 0 rfl CA.toList _ HHR.out HU.out rfl HS39.out ?_)
   | (refine wpList_store_row rfl _ _ _ rfl V.heap.size CA rfl rfl 25 z39 (Blk.new _ _ _) HS38.out HZZ.out HO.out ?_))
  try simp only[Act.put]
  refine wp_let (fun V2=>Blk V2 V.heap.size 25 CA/\Below V.heap.size V V2) ⟨by first | exact Blk.new V _ _ | exact setRow_heap _ _ _ _ 25 (0,0) (Blk.new _ _ _),by first | exact(Below.refl _ V).alloc (Nat.le_refl _) _ | exact belowRow ((Below.refl _ V).alloc (Nat.le_refl _) _) (Nat.le_refl _) _⟩ ?_;rintro V2 ⟨v1,v2⟩;rw[<-hcb]at v1 ⊢;have HPV2:=zh (HPV.out.add v2 cb (Nat.le_of_eq hcb.symm) v1.lt);have HB2:=zh v1;have hxv:xb < V.heap.size:=HPV.out.lt (.inr rfl);have hxc:¬xb=cb:=by omega
  have HXK:=zh (show ∀W,KeepF (fun k=>k=cb) V2 W->W.heap[xb]? = V.heap[xb]? from fun W hW=>(hW.block xb (Nat.lt_of_lt_of_le hxv v2.size) hxc).trans (v2.block xb hxv));clear x0 v1 v2 hcb hxv hxc;refine wp_region_held_drew (S:=fun w'=>KeepF (fun k=>k=cb) V2 w') (by kernel_rfl) (KeepF.refl.drew) (fun hHeld=>?_);obtain⟨w6,hw6⟩:∃w6,w6=V2.drew:=⟨_,rfl⟩
  have hT6:Blk w6 cb 25 CA:=by rw[hw6];exact HB2.out
  rw[<-hw6];rw[<-hw6]at hHeld;clear hw6;refine tkS (i:=0) (x:=some 107) (v:=.pointer (some ⟨xb,3,none⟩)) rfl ?_;refine' tkY (i:=1) (x:=some 108) (v:=_) rfl (yieldsIf_load_mid (by rfl) _ _ rfl xb 3 rfl KF.toList _ (fun W hW=>HR1.out W (HXK.out W hW)) HUK.out rfl HSK1.out) ?_;refine tkS (i:=2) (x:=some 109) (v:=.pointer (some ⟨xb,19,none⟩)) rfl ?_;refine' tkY (i:=3) (x:=some 110) (v:=_) rfl (yieldsIf_load_mid (by rfl) _ _ rfl xb 19 rfl KC.toList _ (fun W hW=>HR2.out W (HXK.out W hW)) HUK.out rfl HSK2.out) ?_;refine tkS (i:=4) (x:=some 111) (v:=.pointer (some ⟨cb,2,none⟩)) rfl ?_;refine rdH (i:=5) (x:=none) rfl fun K hK=>?_;refine wp_store_mid _ _ _ rfl cb 2 KF rfl rfl (blk_there hT6 2 KF.size (by rw[HKF.out,HAS.out];show 2+16<=39;decide)) HSKF.out HOK.out ?_;have hk1:KeepF (fun k=>k=cb) V2 (w6.setCells cb 2 KF.toList):=hHeld.trans (ts_keep (F:=fun k=>k=cb) rfl _ _ _) (fun _ _ h=>h);have hB1:=ts_setCells KF.toList 2 w6 _ hT6;obtain⟨v1,hv1⟩:∃vv,vv=w6.setCells cb 2 KF.toList:=⟨_,rfl⟩
  rw[<-hv1]at hk1 hB1 ⊢;refine hK.out _ _ hk1 (fun hHeld=>?_);clear hK K hk1 hv1
  try simp only[Act.put]
  refine tkS (i:=6) (x:=some 112) (v:=.pointer (some ⟨cb,18,none⟩)) rfl ?_;refine rdH (i:=7) (x:=none) rfl fun K hK=>?_;refine wp_store_mid _ _ _ rfl cb 18 KC rfl rfl (blk_there hB1 18 KC.size (by rw[HKC.out,tsAll_size,HAS.out];show 18+16<=39;decide)) HSKC.out HOC.out ?_;have hk1:KeepF (fun k=>k=cb) V2 (v1.setCells cb 18 KC.toList):=hHeld.trans (ts_keep (F:=fun k=>k=cb) rfl _ _ _) (fun _ _ h=>h);have hB2:=ts_setCells KC.toList 18 v1 _ hB1;obtain⟨v2,hv1⟩:∃vv,vv=v1.setCells cb 18 KC.toList:=⟨_,rfl⟩
  rw[<-hv1]at hk1 hB2 ⊢;refine hK.out _ _ hk1 (fun hHeld=>?_);clear hK K hk1 hv1
  try simp only[Act.put]
  refine wpAnyH_done (by kernel_rfl) ?_ _;rw[HCK.out]at hB2;have HPV4:=zh (HPV2.out.other (hHeld.mono (fun k hk=>(.inr hk:(fun k=>(False\/k=xb)\/k=cb) k))));have HB4:=zh hB2;clear hHeld hB1 hB2 hT6;obtain⟨V4,hV4⟩:∃V4,V4=v2:=⟨_,rfl⟩
  rw[<-hV4]at HPV4 HB4 ⊢;clear hV4;have HCR:=zh (show ∀W,Below V4.heap.size V4 W->W.rangeAt cb 0 CK.toList from fun W hW=>(HB4.out.below hW HB4.out.lt).range _ (by simp));go_upto_region 18 with (fail)
  refine wp_region_held_drew (S:=fun w'=>Below V4.heap.size V4 w') (by kernel_rfl) ((Below.refl _ V4).drew) (fun hHeld=>?_);obtain⟨u0,hu0⟩:∃u0,u0=V4.drew:=⟨_,rfl⟩
  rw[<-hu0];rw[<-hu0]at hHeld;clear hu0;refine' tkY (i:=0) (x:=some 114) (v:=_) rfl (yieldsIf_load_mid (by rfl) _ _ rfl cb 0 rfl CK.toList _ (fun w h=>HCR.out w h) HU.out rfl HSN.out) ?_;refine tkR (i:=1) (x:=some 115) (v:=.pointer (some ⟨g,0,none⟩)) rfl ?_;refine rdH (i:=2) (x:=some 116) rfl fun K hK=>?_;go_simp;refine(HMV.out u0 (HPV4.out.below hHeld)).mono ?_;rintro e u1 ⟨A5,c5,rfl,hB,hM⟩;dsimp only;have HH:=zh (hHeld.trans (hB.mono hHeld.size));have HM1:=zh (hM u1 (Below.refl _ _));clear hM hB;refine hK.out _ _ HH.out (fun hHeld=>?_);clear hK K HH
  try simp only[Act.put,qa,qb,qc]
  refine rdH (i:=3) (x:=some 117) rfl fun K hK=>?_;go_simp;refine(HM1.out).mono ?_;rintro e u2 ⟨g2,rfl,hB,hM⟩;dsimp only;have HH:=zh (hHeld.trans (hB.mono hHeld.size));have HM2:=zh hM;have HH2:=zh HH.out;clear hM hB;refine hK.out _ _ HH.out (fun hHeld=>?_);clear hK K HH
  try simp only[Act.put,qa,qb,qc]
  refine tkR (i:=4) (x:=some 113) (v:=.tuple #[.pointer (some ⟨g2,0,none⟩),.int .i64 0]) rfl ?_;refine tkS (i:=5) (x:=some 118) (v:=.pointer (some ⟨g2,0,none⟩)) rfl ?_;refine tkS (i:=6) (x:=some 119) (v:=.int .i64 0) rfl ?_;refine tkR (i:=7) (x:=some 17) (v:=.pointer (some ⟨g2,0,none⟩)) rfl ?_;refine tkR (i:=8) (x:=some 18) (v:=.int .i64 0) rfl ?_;refine wpAnyH_done (by kernel_rfl) ?_ _;clear hHeld;go_upto_region 21 with (fail)
  refine wp_region_held_drew (S:=fun w'=>Below u2.heap.size u2 w') (by kernel_rfl) ((Below.refl _ u2).drew) (fun hHeld=>?_);obtain⟨u3,hu3⟩:∃u3,u3=u2.drew:=⟨_,rfl⟩
  rw[<-hu3];rw[<-hu3]at hHeld;clear hu3;have HCR2:=zh (show ∀W,Below u2.heap.size u2 W->W.rangeAt cb 0 CK.toList from fun W hW=>HCR.out W (HH2.out.trans (hW.mono HH2.out.size)));refine tkR (i:=0) (x:=some 122) (v:=.pointer (some ⟨g2,0,none⟩)) rfl ?_;refine' tkY (i:=1) (x:=some 123) (v:=_) rfl (yieldsIf_load_mid (by rfl) _ _ rfl cb 0 rfl CK.toList _ (fun w h=>HCR2.out w h) HU.out rfl HSN.out) ?_;refine tkR (i:=2) (x:=some 124) (v:=.pointer (some ⟨h,0,none⟩)) rfl ?_;refine rdH (i:=3) (x:=some 125) rfl fun K hK=>?_;go_simp;refine(HM2.out u3 hHeld).mono ?_;rintro e u4 ⟨A7,c7,rfl,hB,hM⟩;dsimp only;have HH:=zh (hHeld.trans (hB.mono hHeld.size));have HM3:=zh (hM u4 (Below.refl _ _));clear hM hB;refine hK.out _ _ HH.out (fun hHeld=>?_);clear hK K HH
  try simp only[Act.put,qa,qb,qc]
  refine rdH (i:=4) (x:=some 126) rfl fun K hK=>?_;go_simp;refine(HM3.out).mono ?_;rintro e u5 ⟨h2,XX,rfl,hp5,hB⟩;dsimp only;have HH:=zh (hHeld.trans (hB.mono hHeld.size));have HP5:=zh hp5;clear hp5 hB;refine hK.out _ _ HH.out (fun hHeld=>?_);clear hK K HH
  try simp only[Act.put,qa,qb,qc]
  refine tkR (i:=5) (x:=some 6) (v:=.pointer (some ⟨g2,0,none⟩)) rfl ?_;refine tkR (i:=6) (x:=some 7) (v:=.pointer (some ⟨h2,0,none⟩)) rfl ?_;refine wpAnyH_done (by kernel_rfl) ?_ _;clear hHeld;go_wp2;go_ret2
  exact⟨g2,h2,rfl,_,_,HP5.out,HRS2.out XX⟩
 have t4:(kd == 4)=false:=by simpa using q4
 clear x1 x2;go_wp2;go_ret2;have hic:=HIC.out;rw[HQ5.out q1 q2 q3]at hic
 exact⟨g,h,rfl,s,U,HPV.out.less (fun k hk=>hk.elim),hic⟩
end
theorem known_true (w:World):Calls Tryz.prog 9 #[] w fun e w'=>e=.returned (.bool true)/\Below w.heap.size w w':=by
 have HN0:=zh (fun W=>rnew_ok (cfR 0) W (cfR_valid 0 (by decide)));have HN5:=zh (fun W=>rnew_ok (cfR 5) W (cfR_valid 5 (by decide)));have HFI:=zh (fun W=>first_ok (cfR 0) (cfR_ok 0) (cfR_valid 0 (by decide)) rfl 3 (by omega) W);rw[cfR_arr]at HN0 HN5 HFI;have HK2L:=zh (fun W=>known2_true W);go_enter Tryz.func9,Tryz.ntmps9;go_upto_region 2 with (first
  | (go_at_call 10;refine(HN0.out _).mono ?_;rintro e w2 ⟨v,rfl,g,mS,mU,eb,X,rfl,hT,h1,h2,h3,h4,hB⟩;have HT:=zh hT;have HB:=zh hB;have HF:=zh (And.intro h1 (And.intro h2 (And.intro h3 h4)));clear hT h1 h2 h3 h4 hB))
 go_upto_region 6 with (first
  | (go_at_call 10;refine(HN5.out _).mono ?_;rintro e w3 ⟨v,rfl,g5,mS5,mU5,eb5,X5,rfl,hT,h1,h2,h3,h4,hB⟩;have HT5:=zh hT;have HB5:=zh hB;have HF5:=zh (And.intro h1 (And.intro h2 (And.intro h3 h4)));clear hT h1 h2 h3 h4 hB)
  | (go_at_call 27;refine(HFI.out _).mono ?_;rintro e w4 ⟨A4,c4,rfl,hF4⟩;have HF4:=zh hF4;clear hF4))
 obtain⟨L,hL,hSL,hP,hA,hBW,hBZ⟩:=HF4.out;have HSL:=zh hSL;have HP:=zh hP;have HBW:=zh hBW;have HL:=zh hL;have HA:=zh hA;clear hSL hP hA hBW hBZ hL HF4;go_upto_region 8 with (fail)
 obtain⟨b,hb⟩:∃b,b=w4.heap.size:=⟨_,rfl⟩
 refine wp_let (fun V=>Below w4.heap.size w4 V/\Blk V (b+5) 3 #[.int .i64 0,.int .i64 2,.int .i64 1,.int .i64 1]/\Blk V (b+4) 35 #[.slice (some ⟨b,0,none⟩) 1 1,.slice (some ⟨b+1,0,none⟩) 0 0,.slice (some ⟨b+2,0,none⟩) 2 2,.slice (some ⟨b+3,0,none⟩) 0 0]/\Blk V b 5 #[.int .u8 0]/\Blk V (b+2) 5 #[.int .u8 1,.int .u8 2])
  ⟨((((((Below.refl _ w4).alloc (Nat.le_refl _) _).alloc (by simp<;>omega) _).alloc (by simp<;>omega) _).alloc (by simp<;>omega) _).alloc (by simp<;>omega) _).alloc (by simp<;>omega) _,
   by rw[hb];exact blk_atZ _ _ _ _ (by simp),by rw[hb];exact(blk_atZ _ _ _ _ (by simp)).alloc _,by rw[hb];exact(((((Blk.new _ _ _).alloc _).alloc _).alloc _).alloc _).alloc _,by rw[hb];exact(((blk_atZ _ _ _ _ (by simp)).alloc _).alloc _).alloc _⟩ ?_
 rintro W8 ⟨b8,o8,v8,x8,y8⟩;have HB8:=zh b8;have HO8:=zh (And.intro o8 (And.intro v8 (And.intro x8 y8)));have HBB:=zh hb;rw[<-hb];clear b8 o8 v8 x8 y8 hb;rw[show b+1+1+1+1+1=b+5 from rfl,show b+1+1+1+1=b+4 from rfl];have hb3:Below w2.heap.size w2 w3:=HB5.out;have hb4:Below w2.heap.size w2 w4:=hb3.trans (HBW.out.mono hb3.size);have hb8:Below w2.heap.size w2 W8:=hb4.trans (HB8.out.mono hb4.size);have HT8:=zh (HT.out.below hb8);have HWL:=zh HT.out.win;clear hb3 hb4 hb8;go_wp2;go_loopw [8] (fun v8 wr=>∃(k:Nat) (l:List SE) (R:Nat->Prop),k<=4/\v8=.int .i64 k/\RxM wr g (kst X k) (fun k=>k=g\/k=mS\/k=mU\/k=eb) R mS l mU eb/\KeepF (fun k=>k=g\/k=mS\/k=mU\/k=eb) W8 wr/\(∀q,R q->W8.heap.size<=q)) (fun v8 _=>4-(intOf v8).toNat)
 case atStart=>exact⟨0,[],fun _=>False,by omega,rfl,HT8.out,KeepF.refl,fun q h=>h.elim⟩
 case round=>
  obtain⟨k,l,R,hk,rfl,hT,hK,hR⟩:=hrel;have HTR:=zh hT;have HKR:=zh hK;have HRR:=zh hR;clear hT hK hR;by_cases hk4:k < 4;rotate_left
  ·obtain rfl:k=4:=by omega
   have hs23:=HB5.out.size;have hs34:=HBW.out.size;have hs48:=HB8.out.size;have hT5:RxM wr g5 (rnewS (cfR 5) X5) (fun k=>k=g5\/k=mS5\/k=mU5\/k=eb5) (fun _=>False) mS5 [] mU5 eb5:=((HT5.out.below HBW.out).below (HB8.out)).keepF HKR.out (fun q h=>⟨fun h5=>by
    have h1:=HWL.out q h;have h2:=HF5.out;rcases h5 with rfl | rfl | rfl | rfl<;>omega,fun h=>h⟩)
   have HT5r:=zh hT5;have HTr:=zh HTR.out;clear hT5;have hpd:∀i,i < 3->∃p,L[i]? = some p/\Pdu1 wr w3.heap.size (cfR 0) i p:=fun i hi=>by
    have hil:i < L.length:=by rw[HL.out];exact hi
    refine⟨L[i],List.getElem?_eq_getElem hil,?_⟩;have hpd:=(HP.out _ _ (List.getElem?_eq_getElem hil)).1
    exact(hpd.keep (KeepF.of_below (F:=fun _=>False) HB8.out) (fun _ _ h=>h)).keep HKR.out (fun a ha h=>by have:=hpd.2.2 a ha;have:=HWL.out _ h;omega)
   obtain⟨p0,hl0,hp0⟩:=hpd 0 (by decide);obtain⟨p2,hl2,hp2⟩:=hpd 2 (by decide);have hSLr:SL wr 35 1 A4 3 c4 (L.map (pv (cfR 0))):=(HSL.out.next HB8.out).keepF HKR.out (fun a ha h=>by have:=HA.out a ha;have:=HWL.out _ h;omega);obtain⟨ab,ao,hAA,hab⟩:=hSLr.some_ (by omega);have cA0:wr.cell? ⟨ab,ao,none⟩=some (.slice p0.1 (pduN (cfR 0) 1) p0.2):=by
    have h:=hSLr.cell (j:=0) hAA (by decide);rw[Nat.add_zero]at h;rw[h,List.getElem?_map,hl0]
    rfl
   have cA2:wr.cell? ⟨ab,ao+2,none⟩=some (.slice p2.1 (pduN (cfR 0) 1) p2.2):=by
    rw[hSLr.cell (j:=2) hAA (by decide),List.getElem?_map,hl2]
    rfl
   have habw:w3.heap.size<=ab:=by rw[hAA]at HA;exact Nat.le_of_lt (HA.out _ rfl)
   have HW5:=zh (show ∀q,(q=g5\/q=mS5\/q=mU5\/q=eb5)->q < w3.heap.size from fun q h=>HT5.out.win _ h);have HX1:=zh (show(rnewS (cfR 5) X5).receive 0 (pduN (cfR 0) 1) (pduZ (cfR 0) 0 1 (fun _=>0))=([sv1 5 0],0,kS 5 X5 0 1 1 [] false 0 0 0)from k_next 5 X5 0 0 (by decide) 0 (by decide));have HX2:=zh (show(kS 5 X5 0 1 1 [] false 0 0 0).receive 1 (pduN (cfR 0) 1) (pduZ (cfR 0) 2 1 (fun _=>2))=([],0,kS 5 X5 1 1 3 [sv1 5 2] true 3 6 0)from k_gap5 5 (by decide) X5 0 1 (by decide));have HX3:=zh (k_wait X5);have HX4:=zh (k_due X5);have HRC1:=zh (recv_plain g5 (rnewS (cfR 5) X5) _ _ mS5 [] mU5 eb5 wr HT5r.out 5 rfl (by decide) (by decide) (by show(0:Int) < _;decide) 0 p0.1 (pduN (cfR 0) 1) p0.2 (pduZ (cfR 0) 0 1 (fun _=>0)) (by decide) hp0.2.1 (fun j _=>pduZ_lt (fun q hq=>nf_lt (cfR_ok 0).key hq) (fun _ _=>by omega) j) hp0.1 (fun a ha h=>by have:=hp0.2.2 a ha;have:=HW5.out _ h;omega));have HRC2:=zh (show ∀(R9:Nat->Prop) (l9:List SE) (W9:World),RxM W9 g5 (kS 5 X5 0 1 1 [] false 0 0 0) (fun k=>k=g5\/k=mS5\/k=mU5\/k=eb5) R9 mS5 l9 mU5 eb5->KeepF (fun k=>k=g5\/k=mS5\/k=mU5\/k=eb5) wr W9->Calls Tryz.prog 11 #[.pointer (some ⟨g5,0,none⟩),.int .i64 1,.slice p2.1 (pduN (cfR 0) 1) p2.2] W9 (RecvO g5 (kS 5 X5 0 1 1 [] false 0 0 0) (fun k=>k=g5\/k=mS5\/k=mU5\/k=eb5) R9 mS5 mU5 eb5 1 (pduN (cfR 0) 1) (pduZ (cfR 0) 2 1 (fun _=>2)) W9)from fun R9 l9 W9 hM hK=>by
    have hq:=hp2.keep hK (fun a ha h=>by have:=hp2.2.2 a ha;have:=HW5.out _ h;omega);have hl0:l9.length<=250:=by
     have h1:=congrArg List.length hM.lv;rw[List.length_map]at h1;rw[h1];show 0<=250
     decide
    exact recv_plain g5 _ _ R9 mS5 l9 mU5 eb5 W9 hM 5 rfl (by decide) hl0 (by show(0:Int) < _;decide) 1 p2.1 (pduN (cfR 0) 1) p2.2 (pduZ (cfR 0) 2 1 (fun _=>2)) (by decide) hq.2.1 (fun j _=>pduZ_lt (fun q hq=>nf_lt (cfR_ok 0).key hq) (fun _ _=>by omega) j) hq.1 (fun a ha h=>by have:=hq.2.2 a ha;have:=HW5.out _ h;omega))
   have HTK:=zh (show ∀(s:RS) (R9:Nat->Prop) (l9:List SE) (W9:World) (t:Int),RxM W9 g5 s (fun k=>k=g5\/k=mS5\/k=mU5\/k=eb5) R9 mS5 l9 mU5 eb5->s.C=cfR 5->s.L.length<=250->Calls Tryz.prog 13 #[.pointer (some ⟨g5,0,none⟩),.int .i64 t] W9 (TickO g5 s (fun k=>k=g5\/k=mS5\/k=mU5\/k=eb5) R9 mS5 mU5 eb5 t W9)from fun s R9 l9 W9 t hM hC hL=>by
    have h1:=congrArg List.length hM.lv;rw[List.length_map]at h1
    exact tick_ok g5 s _ R9 mS5 l9 mU5 eb5 W9 hM (by rw[hC];show(0:Int)<=5/\(5:Int)<=_;decide) (by omega) t)
   have HA2:=zh (show ∀W',KeepF (fun k=>k=g5\/k=mS5\/k=mU5\/k=eb5) wr W'->W'.cell? ⟨ab,ao+2,none⟩=some (.slice p2.1 (pduN (cfR 0) 1) p2.2)from fun W' hW=>(hW.cell (p:=⟨ab,ao+2,none⟩) hab (fun h=>by have h1:=HW5.out _ h;simp only at h1;omega)).trans cA2);subst hAA;clear hpd hl0 hl2 hp0 hp2 hSLr cA2 habw;have k4:¬(4:Int) < 4:=by decide
   go_upto_region 15 with (go_at_call 11;refine(HRC1.out).mono ?_;rintro e u1 ⟨R1,l1,A1,c1,lo1,rfl,hM1,hm1,hp1,hT1,hr1,hr1b,hk1⟩;rw[HX1.out]at hm1 hT1 ⊢;have HM1:=zh (And.intro hM1 (And.intro hm1 hp1));have HT1:=zh hT1;have HR1:=zh hr1;have HK1:=zh hk1;clear hM1 hm1 hp1 hT1 hr1 hr1b hk1)
   have HRC2':=zh (HRC2.out R1 l1 u1 HT1.out HK1.out);have cA2:=HA2.out u1 HK1.out;go_upto_region 16 with (go_at_call 11;refine(HRC2'.out).mono ?_;rintro e u2 ⟨R2,l2,A2,c2,lo2,rfl,hM2,hm2,hp2,hT2,hr2,hr2b,hk2⟩;rw[HX2.out]at hm2 hT2 ⊢;have HM2:=zh (And.intro hM2 (And.intro hm2 hp2));have HT2:=zh hT2;have HR2:=zh (And.intro hr2 hr2b);have HK2:=zh hk2;clear hM2 hm2 hp2 hT2 hr2 hr2b hk2)
   have HTK1:=zh (HTK.out _ R2 l2 u2 5 HT2.out rfl (by show 1<=250;decide));clear cA0 cA2;go_upto_region 17 with (go_at_call 13;refine(HTK1.out).mono ?_;rintro e u3 ⟨l3,A3,c3,lo3,rfl,hM3,hm3,hp3,hT3,hk3⟩;rw[HX3.out]at hm3 hT3 ⊢;have HM3:=zh (And.intro hM3 (And.intro hm3 hp3));have HT3:=zh hT3;have HK3:=zh hk3;clear hM3 hm3 hp3 hT3 hk3)
   have HTK2:=zh (HTK.out _ R2 l3 u3 6 HT3.out rfl (by show 1<=250;decide));go_upto_region 18 with (go_at_call 13;refine(HTK2.out).mono ?_;rintro e u4 ⟨l4,A5,c5,lo4,rfl,hM4,hm4,hp4,hT4,hk4'⟩;rw[HX4.out]at hm4 hT4 ⊢;have HM4:=zh (And.intro hM4 (And.intro hm4 hp4));have HT4:=zh hT4;have HK4:=zh hk4';clear hM4 hm4 hp4 hT4 hk4')
   have hk24:KeepF (fun k=>k=g5\/k=mS5\/k=mU5\/k=eb5) u1 u4:=(HK2.out.trans HK3.out (fun _ _ h=>h)).trans HK4.out (fun _ _ h=>h);have hk34:KeepF (fun k=>k=g5\/k=mS5\/k=mU5\/k=eb5) u2 u4:=HK3.out.trans HK4.out (fun _ _ h=>h);have hk14:KeepF (fun k=>k=g5\/k=mS5\/k=mU5\/k=eb5) wr u4:=HK1.out.trans hk24 (fun _ _ h=>h);have HK14:=zh hk14;have hlow:w3.heap.size<=wr.heap.size/\w3.heap.size<=u1.heap.size/\w3.heap.size<=u2.heap.size/\w3.heap.size<=u3.heap.size:=by
    have h1:=HKR.out.size;have h2:=HK1.out.size;have h3:=HK2.out.size;have h4:=HK3.out.size;omega
   have hG:∀(A:Option Addr) (c:Nat) (lo:List SE) (R':Nat->Prop) (V0 u:World) (s:RS) (l':List SE),OutM u V0.heap.size A c lo->(∀x,x∈lo->Pkt u R' x.A x.v.n x.c x.v.z)->RxM u g5 s (fun k=>k=g5\/k=mS5\/k=mU5\/k=eb5) R' mS5 l' mU5 eb5->w3.heap.size<=V0.heap.size->KeepF (fun k=>k=g5\/k=mS5\/k=mU5\/k=eb5) u u4->∀V,KeepF (fun _=>False) u4 V->∀(Bw:Option Addr) (m cb:Nat) (f:Nat->Int),Row V V.heap.size Bw m (fun j=>.int .u8 (f j))->lo.length=m->m<=1000000->(∀(k:Nat) (e:SE),lo[k]? = some e->e.v.n=1/\e.v.z 0=f k)->Calls Tryz.prog 28 #[.slice A lo.length c,.int .i64 0,.slice Bw m cb] V fun e w'=>e=.returned (.bool true)/\KeepF (fun _=>False) V w':=fun A c lo R' V0 u s l' hO hP hT hV hK V hKV Bw m cb f hB hm hm9 hv=>
    gets_yes A c lo R' Bw m cb f V ((hO.1.keepF hK (fun a ha h=>by have h1:=hO.2 a ha;have h2:=HW5.out _ h;omega)).keepF hKV (fun _ _ h=>h)) (fun x hx=>((hP x hx).keep hK (fun k h hr=>hT.dis k h hr)).keep hKV (fun _ h=>h.elim)) hB hm hm9 hv
   have HG1:=zh (hG A1 c1 lo1 R1 wr u1 _ l1 HM1.out.1 HM1.out.2.2 HT1.out hlow.1 hk24);have HG2:=zh (hG A2 c2 lo2 R2 u1 u2 _ l2 HM2.out.1 HM2.out.2.2 HT2.out hlow.2.1 hk34);have HG3:=zh (hG A3 c3 lo3 R2 u2 u3 _ l3 HM3.out.1 (fun x hx=>HM3.out.2.2 x hx) HT3.out hlow.2.2.1 HK4.out);have HG4:=zh (hG A5 c5 lo4 R2 u3 u4 _ l4 HM4.out.1 (fun x hx=>HM4.out.2.2 x hx) HT4.out hlow.2.2.2 KeepF.refl);have one:∀(lo:List SE) (k:Nat),lo.map (·.v)=[sv1 5 k]->lo.length=1/\∀(j:Nat) (e:SE),lo[j]? = some e->e.v.n=1/\e.v.z 0=(k:Int):=fun lo k h=>by
    have h1:=congrArg List.length h;rw[List.length_map]at h1;refine⟨h1,fun j e he=>?_⟩;have h2:(lo.map (·.v))[j]? = some e.v:=by rw[List.getElem?_map,he];rfl
    rw[h]at h2;rcases j with _ | j
    ·have h3:sv1 5 k=e.v:=by simpa using h2
     rw[<-h3]
     exact⟨rfl,sv1_z 5 k⟩
    ·simp at h2
   have nol:∀(lo:List SE),lo.map (·.v)=[]->lo.length=0/\∀(j:Nat) (e:SE),lo[j]? = some e->e.v.n=1/\e.v.z 0=0:=fun lo h=>by
    have h1:lo=[]:=by simpa using h
    subst h1
    exact⟨rfl,fun j e he=>by simp at he⟩
   have L1:=zh (one lo1 0 HM1.out.2.1);have L2:=zh (nol lo2 HM2.out.2.1);have L3:=zh (nol lo3 HM3.out.2.1);have L4:=zh (one lo4 2 HM4.out.2.1);have hTg:RxM u4 g (kst X 4) (fun k=>k=g\/k=mS\/k=mU\/k=eb) R mS l mU eb:=HTr.out.keepF hk14 (fun q h=>⟨fun h5=>by
    have h1:=HWL.out q h5;have h2:=HF5.out;rcases h with rfl | rfl | rfl | rfl<;>omega,fun hr=>by
    have h1:=HRR.out q hr;have h2:=HW5.out q h;have h3:=HB8.out.size;omega⟩)
   have HDU:=zh (dups_ok g (kst X 4) _ R mS l mU eb u4 hTg);have hd1:(kst X 4).dup=1:=rfl;rw[hd1]at HDU;have E0:KeepF (fun _=>False) u4 (u4.alloc (.cells #[.int .u8 0] 5)):=(KeepF.refl (F:=fun _=>False) (w:=u4)).alloc _;have HE0:=zh E0;have HG1a:=zh (HG1.out _ E0 (some ⟨u4.heap.size,0,none⟩) 1 1 (fun _=>0) (row_lit u4 #[.int .u8 0] 1 (fun _=>0) rfl (fun j hj=>by obtain rfl:j=0:=(by omega);rfl)) L1.out.1 (by decide) L1.out.2);have HG2a:=zh (fun V (hV:KeepF (fun _=>False) u4 V)=>HG2.out V hV none 0 0 (fun _=>0) (fun h=>absurd h (by decide)) L2.out.1 (by decide) L2.out.2);have HG3a:=zh (fun V (hV:KeepF (fun _=>False) u4 V)=>HG3.out V hV none 0 0 (fun _=>0) (fun h=>absurd h (by decide)) L3.out.1 (by decide) L3.out.2);have HG4a:=zh (fun V (hV:KeepF (fun _=>False) u4 V)=>HG4.out (V.alloc (.cells #[.int .u8 2] 5)) (hV.alloc _) (some ⟨V.heap.size,0,none⟩) 1 1 (fun _=>2) (row_lit V #[.int .u8 2] 1 (fun _=>2) rfl (fun j hj=>by obtain rfl:j=0:=(by omega);rfl)) L4.out.1 (by decide) L4.out.2);clear hk24 hk34 hk14 hlow hG one nol hTg hd1 E0;go_wp2_with (first
    | (go_at_call 29;refine(HK2L.out _).mono ?_;rintro e v5 ⟨rfl,hB⟩;have E5:=zh hB;clear hB)
    | (go_at_call 28;with_reducible refine(HG4a.out v3 E3.out).mono ?_;rintro e v4 ⟨rfl,hk⟩;have E4:=zh ((E3.out.alloc _).trans hk (fun _ _ h=>h));clear hk)
    | (go_at_call 28;with_reducible refine(HG3a.out v2 E2.out).mono ?_;rintro e v3 ⟨rfl,hk⟩;have E3:=zh (E2.out.trans hk (fun _ _ h=>h));clear hk)
    | (go_at_call 28;with_reducible refine(HG2a.out v1 E1.out).mono ?_;rintro e v2 ⟨rfl,hk⟩;have E2:=zh (E1.out.trans hk (fun _ _ h=>h));clear hk)
    | (go_at_call 28;with_reducible refine(HG1a.out).mono ?_;rintro e v1 ⟨rfl,hk⟩;have E1:=zh (HE0.out.trans hk (fun _ _ h=>h));clear hk)
    | (go_at_call 17;refine(HDU.out).mono ?_;rintro e v0 ⟨rfl,hv0⟩;rw[<-hv0];clear hv0 v0))
   go_ret;have x1:=HB.out.trans (HB5.out.mono HB.out.size);have x2:=x1.trans (HBW.out.mono x1.size);have x3:=x2.trans (HB8.out.mono x2.size);have x4:=KeepF.below x3 HKR.out (fun k hk=>by
    have h1:=HF.out;rcases hk with rfl | rfl | rfl | rfl<;>omega) x3.size
   have x5:=KeepF.below x4 HK14.out (fun k hk=>by
    have h1:=HF5.out;have h2:=HB.out.size;rcases hk with rfl | rfl | rfl | rfl<;>omega) x4.size
   have x6:=KeepF.below x5 E4.out (fun _ h=>h.elim) x5.size
   exact⟨rfl,x6.trans (E5.out.mono x6.size)⟩
  have hs23:=HB5.out.size;have hs48:=HB8.out.size;have hkl:kord k < L.length:=by rw[HL.out];unfold kord;split<;>(try split)<;>omega
  obtain⟨p,hp⟩:∃p,L[kord k]? = some p:=⟨_,List.getElem?_eq_getElem hkl⟩
  have hpd:=(HP.out _ _ hp).1;have hpw:Pdu1 wr w3.heap.size (cfR 0) (kord k) p:=((hpd.keep (KeepF.of_below (F:=fun _=>False) HB8.out) (fun _ _ h=>h)).keep HKR.out (fun a ha h=>by have:=hpd.2.2 a ha;have:=HWL.out _ h;omega))
  have hSLr:SL wr 35 1 A4 3 c4 (L.map (pv (cfR 0))):=(HSL.out.next HB8.out).keepF HKR.out (fun a ha h=>by have:=HA.out a ha;have:=HWL.out _ h;omega);obtain⟨ab,ao,hAA,hab⟩:=hSLr.some_ (by omega);have cA:wr.cell? ⟨ab,ao+kord k,none⟩=some (.slice p.1 (pduN (cfR 0) 1) p.2):=by
   rw[hSLr.cell hAA (by rw[HL.out]at hkl;omega),List.getElem?_map,hp]
   rfl
  have hl12:l.length<=250:=by
   have h1:=congrArg List.length HTR.out.lv;rw[List.length_map]at h1;have:=kst_L X k;omega
  have HREC:=zh (recv_plain g (kst X k) _ R mS l mU eb wr HTR.out 0 (kst_C X k) (by decide) hl12 (by have:=kst_dup X k;omega) 0 p.1 (pduN (cfR 0) 1) p.2 (pduZ (cfR 0) (kord k) 1 (fun _=>kord k)) (by decide) hpw.2.1 (fun j _=>pduZ_lt (fun q hq=>nf_lt (cfR_ok 0).key hq) (fun _ _=>by unfold kord;split<;>(try split)<;>omega) j) hpw.1 (fun a ha h=>by have:=hpw.2.2 a ha;have:=HWL.out _ h;omega));have HX:=zh (k_step X k hk4);have hb4w:∀q,(q=g\/q=mS\/q=mU\/q=eb)->q < b:=fun q h=>by have:=HWL.out _ h;have:=HBB.out;have:=HBW.out.size;omega
  have o8:=HKR.out.blk HO8.out.1 (fun h=>by have:=hb4w _ h;omega);have v8:=HKR.out.blk HO8.out.2.1 (fun h=>by have:=hb4w _ h;omega);have x8:=HKR.out.blk HO8.out.2.2.1 (fun h=>by have:=hb4w _ h;omega);have y8:=HKR.out.blk HO8.out.2.2.2 (fun h=>by have:=hb4w _ h;omega);have co:wr.cell? ⟨b+5,k,none⟩=some (.int .i64 (kord k:Nat)):=(o8.cell k).trans (by
   rcases (by omega:k=0\/k=1\/k=2\/k=3)with rfl | rfl | rfl | rfl<;>rfl)
  have cv:∀W',KeepF (fun k=>k=g\/k=mS\/k=mU\/k=eb) wr W'->W'.cell? ⟨b+4,k,none⟩=some (.slice (some ⟨b+k,0,none⟩) (kout k).length (kout k).length)/\Row W' W'.heap.size (some ⟨b+k,0,none⟩) (kout k).length (fun j=>.int .u8 (kwant k j)):=fun W' hW=>by
   have v9:=hW.blk v8 (fun h=>by have:=hb4w _ h;omega);have x9:=hW.blk x8 (fun h=>by have:=hb4w _ h;omega);have y9:=hW.blk y8 (fun h=>by have:=hb4w _ h;omega);rcases (by omega:k=0\/k=1\/k=2\/k=3)with rfl | rfl | rfl | rfl
   ·exact⟨v9.cell 0,fun _=>⟨b,0,rfl,x9.lt,fun j hj=>by
     obtain rfl:j=0:=by have:j < 1:=hj;omega
     exact x9.cell 0⟩⟩
   ·exact⟨v9.cell 1,fun h=>absurd h (by show ¬0 < 0;omega)⟩
   ·exact⟨v9.cell 2,fun _=>⟨b+2,0,rfl,y9.lt,fun j hj=>by
     have:j < 2:=hj;rcases (by omega:j=0\/j=1)with rfl | rfl
     ·exact y9.cell 0
     ·exact y9.cell 1⟩⟩
   ·exact⟨v9.cell 3,fun h=>absurd h (by show ¬0 < 0;omega)⟩
  have HCV:=zh cv;obtain⟨ko,hko⟩:∃q,q=kord k:=⟨_,rfl⟩
  have hko3:ko < 3:=by rw[hko];unfold kord;split<;>(try split)<;>omega
  rw[<-hko]at co cA HREC HX;have k0:(0:Int)<=(k:Int):=by omega
  have k1:(k:Int) < 4:=by omega
  have q0:(0:Int)<=(ko:Int):=by omega
  have q1:(ko:Int) < 3:=by omega
  subst hAA;clear o8 v8 x8 y8 cv hpw hSLr hp hpd hkl hko;go_upto_region 12 with (go_at_call 11;refine(HREC.out).mono ?_;rintro e w9 ⟨R9,l9,A9,c9,lo9,rfl,hM9,hm9,hp9,hT9,hr9,hr9b,hk9⟩;rw[HX.out]at hm9 hT9 ⊢;have HM9:=zh (And.intro hM9 (And.intro hm9 hp9));have HT9:=zh hT9;have HR9:=zh hr9;have HK9:=zh hk9;clear hM9 hm9 hp9 hT9 hr9 hr9b hk9)
  have hsl9:=HM9.out.2.1;obtain⟨cv4,rv4⟩:=HCV.out w9 HK9.out;have hlen9:lo9.length=(kout k).length:=by rw[<-HM9.out.2.1,List.length_map]
  have HGT:=zh (gets_yes A9 c9 lo9 R9 (some ⟨b+k,0,none⟩) (kout k).length (kout k).length (kwant k) w9 HM9.out.1.1 HM9.out.2.2 rv4 hlen9 (by have:(kout k).length<=2:=(by unfold kout;split<;>(try split)<;>decide);omega) (fun j e he=>by
   have h1:(kout k)[j]? = some e.v:=by rw[<-HM9.out.2.1,List.getElem?_map,he];rfl
   exact k_out k hk4 j e.v h1))
  clear hsl9 rv4 hlen9;go_wp2_with (go_at_call 28;refine(HGT.out).mono ?_;rintro e w10 ⟨rfl,hk10⟩;have HK10:=zh hk10;clear hk10);go_roundw
  case rel=>exact⟨k+1,l9,R9,by omega,by go_num,HT9.out.keepF HK10.out (fun _ h=>h.elim),(HKR.out.trans HK9.out (fun _ _ h=>h)).trans HK10.out (fun _ _ h=>h.elim),fun q hq=>by
   rcases HR9.out q hq with h | h
   ·exact HRR.out q h
   ·have:=HKR.out.size;omega⟩
  case measure=>simp[intOf];omega
theorem small46_few {m:Nat} {pn:Nat->Nat} (h:small46 m pn=true):m<=40:=by
 unfold small46 at h
 exact(of_decide_eq_true h).1
theorem soloR_res {cf:Cfg} {d nx:Int} {L:List SV} {w0 V:World} {g mS mU eb:Nat} {X:Obj} {l:List SE} {R:Nat->Prop} {w':World} {N:Nat->Prop} (hlow:Below w0.heap.size w0 V) (hT:RxM w' g (rresS cf X d nx L) (fun k=>k=g\/k=mS\/k=mU\/k=eb) R mS l mU eb) (h1:V.heap.size<=g) (h2:V.heap.size<=mS) (h3:V.heap.size<=mU) (h4:V.heap.size<=eb) (hR:∀k,R k->V.heap.size<=k) (hB:Below V.heap.size V w') (hN:∀k,N k->w0.heap.size<=k/\k < V.heap.size):SoloR w0 w' g (rresS cf X d nx L) N:=by
 have hs:=hlow.size;refine⟨_,R,mS,l,mU,eb,hT,fun k hk=>?_,hlow.trans (hB.mono hs),fun k hk=>⟨(hN k hk).1,Nat.lt_of_lt_of_le (hN k hk).2 hB.size,fun hw=>?_,fun hr=>?_⟩⟩
 ·rcases hk with h | h | h | h<;>omega
 ·have:=(hN k hk).2;rcases hw with h | h | h | h<;>omega
 ·have:=(hN k hk).2;have:=hR k hr;omega
def St6.arr (x:St6):Array Value:=Array.ofFn (n:=35) fun j=>x.cell j.1
theorem St6.arr_size (x:St6):x.arr.size=35:=Array.size_ofFn
theorem St6.arr_at (x:St6) {j:Nat} (hj:j < 35):x.arr[j]? = some (x.cell j):=by
 unfold St6.arr;rw[Array.getElem?_ofFn,dif_pos hj]
theorem few6_le {m:Nat} {S:Nat->St6} (h:few6B m S=true):m<=40:=by
 unfold few6B at h;rw[Bool.and_eq_true]at h
 exact of_decide_eq_true h.1
def lxOf (ct:Nat->Int) (PA:Nat->Option Addr) (pn pc:Nat->Nat) (z:Nat->Nat->Int) (m:Nat):List SE:=(List.range m).map fun k=>⟨svAt ct pn z k,PA k,pc k⟩
section
variable {ct:Nat->Int} {PA:Nat->Option Addr} {pn pc:Nat->Nat} {z:Nat->Nat->Int} {m:Nat}
theorem lxOf_len:(lxOf ct PA pn pc z m).length=m:=by
 unfold lxOf;rw[List.length_map,List.length_range]
theorem lxOf_v:(lxOf ct PA pn pc z m).map (·.v)=svTo ct pn z m:=by
 unfold lxOf svTo;rw[List.map_map]
 rfl
theorem lxOf_mem {e:SE} (h:e∈lxOf ct PA pn pc z m):∃k,k < m/\e=⟨svAt ct pn z k,PA k,pc k⟩:=by
 unfold lxOf at h;rw[List.mem_map]at h;obtain⟨k,hk,rfl⟩:=h
 exact⟨k,List.mem_range.1 hk,rfl⟩
theorem lxOf_at {k:Nat} (hk:k < m):(lxOf ct PA pn pc z m)[k]? = some ⟨svAt ct pn z k,PA k,pc k⟩:=by
 unfold lxOf;rw[List.getElem?_map,List.getElem?_range hk]
 rfl
theorem lxOf_rising {d nx:Int} (hw:Whole d nx m ct pn):Rising (lxOf ct PA pn pc z m):=by
 unfold Rising;rw[List.pairwise_iff_getElem];intro i j hi hj hij;have h1:=lxOf_at (ct:=ct) (PA:=PA) (pn:=pn) (pc:=pc) (z:=z) (m:=m) (k:=i) (by rw[lxOf_len]at hi;exact hi);have h2:=lxOf_at (ct:=ct) (PA:=PA) (pn:=pn) (pc:=pc) (z:=z) (m:=m) (k:=j) (by rw[lxOf_len]at hj;exact hj);rw[List.getElem?_eq_getElem hi]at h1;rw[List.getElem?_eq_getElem hj]at h2;rw[Option.some.inj h1,Option.some.inj h2]
 exact(whole_rise hw j (by rw[lxOf_len]at hj;exact hj)).2 i hij
theorem lxOf_rng {d nx:Int} (hw:Whole d nx m ct pn):∀e,e∈lxOf ct PA pn pc z m->d<=e.v.ct/\e.v.ct < nx:=fun e he=>by
 obtain⟨k,hk,rfl⟩:=lxOf_mem he;have h:=(whole_rise hw k hk).1;show d<=ct k/\ct k < nx;omega
theorem lxOf_pkt {d nx:Int} (hw:Whole d nx m ct pn) {w V:World} {A:Option Addr} (h:Cnts w A m ct PA pn pc z) (hb:Below w.heap.size w V):∀e,e∈lxOf ct PA pn pc z m->Pkt V (fun k=>k < w.heap.size) e.A e.v.n e.c e.v.z:=fun e he=>by
 obtain⟨k,hk,rfl⟩:=lxOf_mem he;have h1:=(whole_rise hw k hk).1;refine⟨h1.2.2.1,h1.2.2.2,h.cap k hk,h.byte k hk,(h.below hb).row k hk,fun a ha=>?_⟩;obtain⟨b,o,e,hlt,_⟩:=h.row k hk (by show 0 < pn k;omega);have ha2:PA k=some a:=ha;rw[ha2]at e
 cases e
 exact hlt
theorem lxOf_src {w:World} {A:Option Addr} {c:Nat} (h:Cnts w A m ct PA pn pc z):Src Tryz.prog 2 44 (.slice A (lxOf ct PA pn pc z m).length c) (lxOf ct PA pn pc z m).length ((lxOf ct PA pn pc z m).flatMap SE.cc) w:=by
 have hl:((lxOf ct PA pn pc z m).flatMap SE.cc).length=m*2:=by
  have:=flat_len SE.cc 2 SE.cclen (lxOf ct PA pn pc z m);rw[lxOf_len]at this
  exact this
 rw[lxOf_len];by_cases hm:m=0
 ·subst hm;have hn:(lxOf ct PA pn pc z 0).flatMap SE.cc=[]:=List.eq_nil_of_length_eq_zero (by rw[hl]);rw[hn]
  cases A with
  | none=>exact Src.ofNil w Tryz.underlying44 c
  | some a=>exact Src.ofSlice w Tryz.underlying44 a 0 c [] rfl (fun j u hu=>by simp at hu) (fun u hu=>by cases hu)
 ·obtain⟨lb,lo,rfl,hlb,hc⟩:=h.at_ hm;refine Src.ofSlice w Tryz.underlying44 ⟨lb,lo,none⟩ m c _ hl (fun j u hu=>?_) (fun u hu=>SE.one hu);have hj:j < m*2:=by have:=(List.getElem?_eq_some_iff.1 hu).1;rwa [hl]at this
  have hk:j / 2 < m:=by omega
  have hj2:j=j / 2*2+j % 2:=by omega
  rw[Addr.add_lit,<-hu];rw[hj2,flat_at SE.cc 2 SE.cclen _ (j / 2) (j % 2) _ (lxOf_at hk) (by omega)];rcases (by omega:j % 2=0\/j % 2=1)with e | e
  ·rw[e]
   exact(hc (j / 2) hk).1
  ·rw[e]
   exact(hc (j / 2) hk).2
theorem whole_res {d nx:Int} (hw:Whole d nx m ct pn) (cf:Cfg) (XX:Obj):WholeS (rresS cf XX d nx (svTo ct pn z m)):=by
 have hmem:∀v,v∈svTo ct pn z m->∃k,k < m/\v=svAt ct pn z k:=fun v hv=>by
  unfold svTo at hv;rw[List.mem_map]at hv;obtain⟨k,hk,rfl⟩:=hv
  exact⟨k,List.mem_range.1 hk,rfl⟩
 refine⟨?_,fun e he=>?_,hw.1.1,?_,hw.1.2.2⟩
 ·have h:=lxOf_rising (PA:=fun _=>none) (pc:=fun _=>0) (z:=z) hw;show List.Pairwise _ (svTo ct pn z m);rw[<-lxOf_v (PA:=fun _=>none) (pc:=fun _=>0),List.pairwise_map]
  exact h
 ·obtain⟨k,hk,rfl⟩:=hmem e he;have h:=(whole_rise hw k hk).1
  exact⟨h.1,h.2.1⟩
 ·rcases hw.2.2 with h | ⟨h1,h2⟩
  ·exact .inl h
  ·cases m with
   | zero=>
    have:d < d:=h2;omega
   | succ m=>
    rw[lastOf_succ]at h1;refine .inr ⟨svAt ct pn z m,?_,h1⟩;show svAt ct pn z m∈svTo ct pn z (m+1);rw[svTo_succ]
    exact List.mem_append.2 (.inr (List.mem_singleton.2 rfl))
end
theorem pq_both {w4 w10 V w11:World} {g rb:Nat} {s:RS} {U:List (Nat->Int)} {M R:Nat->Prop} {A uA:Option Addr} {c uc:Nat} {lx:List SE} (hS:SoloR w4 w10 g s (fun _=>False)) (hBV:Below w10.heap.size w10 V) (hv:VM w11 rb s U M R A c lx uA uc) (hM:∀k,M k->V.heap.size<=k) (hR:∀k,R k->k < w4.heap.size) (hB:Below V.heap.size V w11):PRX w4 w11 g rb s s U (fun _=>False):=by
 have h1:=hS.low.size;have h2:=hBV.size;have hS2:=hS.below hBV;refine⟨M,R,A,c,lx,uA,uc,hv,hS2.other (KeepF.of_below hB) (fun k hk=>?_),fun k hk=>?_,fun k hk=>hk.elim⟩
 ·rcases hk with (hk | ⟨hr,hk⟩) | hk
  ·exact⟨.inr (hM k hk),hv.min k hk⟩
  ·have:=hR k hr;omega
  ·exact hk.elim
 ·have:=hM k hk;omega
theorem plays6_walk (c:Cfg) (hck:c.Ok) (xd xn:Int) (xA:Option Addr) (xm xc:Nat) (ct:Nat->Int) (PA:Nat->Option Addr) (pn pc:Nat->Nat) (z:Nat->Nat->Int) (hx:0<=xd/\xd < 18446744073709551616) (hy:0<=xn/\xn < 18446744073709551616) (hxm:xm<=maxLen) (A:Option Addr) (m cp:Nat) (S:Nat->St6) (hm:m<=maxLen) (w:World) (hcn:Cnts w xA xm ct PA pn pc z) (hst:Steps6 w A m S) :
  Calls Tryz.prog 6 #[.agg c.arr,.agg #[.int .u64 xd,.int .u64 xn,.slice xA xm xc],.slice A m cp] w fun e w'=>e=.returned (.bool true)/\Below w.heap.size w w':=by
 have HKN:=zh (fun V=>known_true V);have HPL:=zh (fun V=>plain46_ok c V);have HRV:=zh (fun V=>rvalid45_ok c.noK V);have HDO:Hid (c.noK.Ok/\c.noK.cm=false):=zh ⟨⟨hck.key,hck.code⟩,rfl⟩;have HFW:=zh (fun V (hV:Steps6 V A m S)=>few46_ok A m cp S V hV hm);have HSM:=zh (fun V (h1:Cnts V xA xm ct PA pn pc z)=>small46_ok xd xn xA xm xc ct PA pn pc z V hxm h1);have HNO:=zh (fun hno V (h1:Cnts V xA xm ct PA pn pc z)=>rresume_bad c.noK xA xm xc xd xn ct PA pn pc z V hx.1 hy hx.2 hxm h1 hno);have HOK:=zh (fun hv hf V (h1:Cnts V xA xm ct PA pn pc z)=>rresume_any c.noK V hv xA xm xc xd xn ct PA pn pc z hx.1 hxm h1 hf);have HSY:=zh (fun(hq:xm<=1000000) hw V (h1:Cnts V xA xm ct PA pn pc z)=>vstate_yes xA xm xc xd xn ct PA pn pc z V hx.1 hq h1 hw);have HSN:=zh (fun(hq:xm<=1000000) hw V (h1:Cnts V xA xm ct PA pn pc z)=>vstate_no xA xm xc xd xn ct PA pn pc z V hx.1 hy hx.2 hq h1 hw);have HUO:=zh (fun(hq:xm<=1000000) (hw:Whole xd xn xm ct pn) (XX:Obj) (V0 V:World) (h1:Cnts V0 xA xm ct PA pn pc z) (hb:Below V0.heap.size V0 V)=>vresume_ok c.noK XX xd xn xA (lxOf ct PA pn pc z xm) xc (fun k=>k < V0.heap.size) V ⟨hx.1,hw.1.1,hw.1.2.1⟩ (by rw[lxOf_len];exact hq) (fun W hW=>lxOf_src ((h1.below hb).below hW)) (lxOf_rising hw) (lxOf_rng hw) (lxOf_pkt hw h1 hb) (fun k hk=>Nat.lt_of_lt_of_le hk hb.size));simp only[lxOf_len]at HUO;have HS0:Hid ((Tryz.prog.info? 25).map (·.size)=some c.arr.size):=zh (by rw[c.arr_size];exact infoPd);have HS1:Hid ((Tryz.prog.info? 25).map (·.size)=some c.noK.arr.size):=zh (by rw[c.noK.arr_size];exact infoPd);have HSS:Hid (c.arr.size=c.noK.arr.size):=zh (by rw[c.arr_size,c.noK.arr_size]);have HO1:=zh c.noK.arr_one;obtain⟨d,hd⟩:∃d,d=c.noK:=⟨_,rfl⟩
 obtain⟨Z,hZ⟩:∃Z,Z=c.arr:=⟨_,rfl⟩
 obtain⟨Y,hY⟩:∃Y,Y=c.noK.arr:=⟨_,rfl⟩
 rw[<-hY]at HPL HRV HNO HOK HUO HS1 HSS HO1;rw[<-hd]at HRV HNO HOK HUO HDO;rw[<-hZ]at HPL HS0 HSS ⊢;have HU:=zh Tryz.underlying25;have HCN:=zh hcn;have HSTP:=zh hst;unfold maxLen at hm hxm;have m0:(0:Int)<=(m:Int):=by omega
 clear hZ hY hd hst hck hcn hx hy;go_enter Tryz.func6,Tryz.ntmps6;go_upto_region 1 with (fail)
 obtain⟨g,hg⟩:∃g,g=w.heap.size:=⟨_,rfl⟩
 have HG:=zh hg;refine wp_let (fun W=>Blk W g 25 Z/\Blk W (g+1) 46 #[.int .u64 xd,.int .u64 xn,.slice xA xm xc]/\Below w.heap.size w W) ⟨by rw[hg];exact(Blk.new _ _ _).alloc _,by rw[hg];exact blk_atZ _ _ _ _ (by simp),((Below.refl _ w).alloc (Nat.le_refl _) _).alloc (by simp) _⟩ ?_;rintro W1 ⟨b1,bf,b2⟩;have B1:=zh b1;have BF1:=zh bf;have B2:=zh b2;rw[<-hg];clear b1 b2 bf hg;go_upto_region 2 with (first
  | (refine wpList_load_row rfl _ _ rfl g rfl 25 Z (0,0) _ B1.out HU.out rfl HS0.out ?_)
  | (go_at_call 7;refine(HPL.out _).mono ?_;rintro e w2 ⟨rfl,hB⟩;have C1:=zh (B1.out.below hB B1.out.lt);have CF:=zh (BF1.out.below hB BF1.out.lt);have C2:=zh (B2.out.trans (hB.mono B2.out.size));clear hB)
  | (refine wpList_store_row rfl _ _ _ rfl g Y rfl rfl 25 _ C1.out HS1.out HSS.out HO1.out ?_))
 try simp only[Act.put]
 refine wp_let (fun W=>Blk W g 25 Y/\Blk W (g+1) 46 #[.int .u64 xd,.int .u64 xn,.slice xA xm xc]/\Below w.heap.size w W) ⟨setRow_heap _ _ _ Y 25 (0,0) C1.out,(setRow_other _ _ _ _ (by omega)).trans CF.out,belowRow C2.out (by rw[HG.out];exact Nat.le_refl _) _⟩ ?_;rintro W2 ⟨b1,bf,b2⟩;have D1:=zh b1;have DF:=zh bf;have D2:=zh b2;clear b1 b2 bf B1 B2 BF1 C1 C2 CF;have HFX:=zh (HFW.out W2 (HSTP.out.below D2.out));obtain⟨fb,hfb⟩:∃fb,fb=few6B m S:=⟨_,rfl⟩
 have HFB:Hid (fb=true->m<=40):=zh (fun h=>few6_le (hfb.symm.trans h));rw[<-hfb]at HFX;obtain⟨sm,hsm⟩:∃sm,sm=small46 xm pn:=⟨_,rfl⟩
 have HSB:Hid (sm=true->xm<=40):=zh (fun h=>small46_few (hsm.symm.trans h));rw[<-hsm]at HSM;have z0:=DF.out.cell 0;have z1:=DF.out.cell 1;have z2:=DF.out.cell 2;simp only[List.getElem?_toArray,List.getElem?_cons_zero,List.getElem?_cons_succ]at z0 z1 z2;clear hfb HFW hm hsm
 cases fb with
 | false=>
  go_wp2_with (first
   | (go_at_call 20;with_reducible refine(HFX.out).mono ?_;rintro e w3 ⟨rfl,hB⟩;have E3:=zh hB;clear hB)
   | (go_at_call 9;with_reducible refine(HKN.out _).mono ?_;rintro e w9 ⟨rfl,hB⟩;have E9:=zh hB;clear hB))
  go_ret
  exact⟨rfl,D2.out.trans ((E3.out.trans (E9.out.mono E3.out.size)).mono D2.out.size)⟩
 | true=>
 cases sm with
 | false=>
  go_wp2_with (first
   | (go_at_call 20;with_reducible refine(HFX.out).mono ?_;rintro e w3 ⟨rfl,hB⟩;have E3:=zh hB;have y0:=(DF.out.below hB DF.out.lt).cell 0;have y1:=(DF.out.below hB DF.out.lt).cell 1;have y2:=(DF.out.below hB DF.out.lt).cell 2;simp only[List.getElem?_toArray,List.getElem?_cons_zero,List.getElem?_cons_succ]at y0 y1 y2;clear hB)
   | (go_at_call 15;with_reducible refine(HSM.out _ (HCN.out.below (D2.out.trans (E3.out.mono D2.out.size)))).mono ?_;rintro e w4 ⟨rfl,hB⟩;have E4:=zh (E3.out.trans (hB.mono E3.out.size));clear hB)
   | (go_at_call 9;with_reducible refine(HKN.out _).mono ?_;rintro e w9 ⟨rfl,hB⟩;have E9:=zh hB;clear hB))
  go_ret
  exact⟨rfl,D2.out.trans ((E4.out.trans (E9.out.mono E4.out.size)).mono D2.out.size)⟩
 | true=>
  have HM40:Hid (m<=40):=zh (HFB.out rfl);have HM1:=zh (HSB.out rfl);go_upto_region 4 with (first
   | (go_at_call 20;with_reducible refine(HFX.out).mono ?_;rintro e w3 ⟨rfl,hB⟩;have E3:=zh hB;have y0:=(DF.out.below hB DF.out.lt).cell 0;have y1:=(DF.out.below hB DF.out.lt).cell 1;have y2:=(DF.out.below hB DF.out.lt).cell 2;simp only[List.getElem?_toArray,List.getElem?_cons_zero,List.getElem?_cons_succ]at y0 y1 y2;clear hB)
   | (go_at_call 15;with_reducible refine(HSM.out _ (HCN.out.below (D2.out.trans (E3.out.mono D2.out.size)))).mono ?_;rintro e w4 ⟨rfl,hB⟩;have E4:=zh (E3.out.trans (hB.mono E3.out.size));clear hB))
  have F1:=zh (D1.out.below E4.out D1.out.lt);have FF:=zh (DF.out.below E4.out DF.out.lt);have F2:=zh (D2.out.trans (E4.out.mono D2.out.size));clear z0 z1 z2 y0 y1 y2;have z0:=FF.out.cell 0;have z1:=FF.out.cell 1;have z2:=FF.out.cell 2;simp only[List.getElem?_toArray,List.getElem?_cons_zero,List.getElem?_cons_succ]at z0 z1 z2;have HC4:=zh (HCN.out.below F2.out);by_cases hv:d.Valid;rotate_left
  ·rw[decide_eq_false hv]at HRV;have HX:=zh (HNO.out (fun h=>hv h.1));clear hv;go_wp2_with (first
    | (refine wpList_load_row rfl _ _ rfl g rfl 25 Y (0,0) _ F1.out HU.out rfl HS1.out ?_)
    | (go_at_call 16;with_reducible refine(HX.out _ HC4.out).mono ?_;rintro e w10 ⟨rfl,hB⟩;have E5:=zh hB;have F1:=zh (F1.out.below hB F1.out.lt);clear hB)
    | (go_at_call 8;with_reducible refine(HRV.out _).mono ?_;rintro e w8 ⟨rfl,hB⟩;have E8:=zh hB;clear hB)
    | (go_at_call 9;with_reducible refine(HKN.out _).mono ?_;rintro e w9 ⟨rfl,hB⟩;have E9:=zh hB;clear hB))
   go_ret
   exact⟨rfl,F2.out.trans ((E5.out.trans ((E8.out.trans (E9.out.mono E8.out.size)).mono E5.out.size)).mono F2.out.size)⟩
  rw[decide_eq_true hv]at HRV;by_cases hf:Whole xd xn xm ct pn;rotate_left
  ·have HX:=zh (HNO.out (fun h=>hf h.2));have HSF:=zh (HSN.out (by have:=HM1.out;omega) hf);clear hv hf;go_wp2_with (first
    | (refine wpList_load_row rfl _ _ rfl g rfl 25 Y (0,0) _ F1.out HU.out rfl HS1.out ?_)
    | (refine wpList_load_rowG (by rfl) _ _ rfl g rfl 25 Y (0,0) _ F1.out HU.out rfl HS1.out ?_)
    | (go_at_call 16;with_reducible refine(HX.out _ HC4.out).mono ?_;rintro e w10 ⟨rfl,hB⟩;have E5:=zh hB;have F1:=zh (F1.out.below hB F1.out.lt);have FF:=zh (FF.out.below hB FF.out.lt);clear hB)
    | (go_at_call 8;with_reducible refine(HRV.out _).mono ?_;rintro e w8 ⟨rfl,hB⟩;have E8:=zh (E5.out.trans (hB.mono E5.out.size));have F1:=zh (F1.out.below hB F1.out.lt);have y0:=(FF.out.below hB FF.out.lt).cell 0;have y1:=(FF.out.below hB FF.out.lt).cell 1;have y2:=(FF.out.below hB FF.out.lt).cell 2;simp only[List.getElem?_toArray,List.getElem?_cons_zero,List.getElem?_cons_succ]at y0 y1 y2;clear hB)
    | (go_at_call 23;with_reducible refine(HSF.out _ (HC4.out.below E8.out)).mono ?_;rintro e w7 ⟨rfl,hB⟩;have E7:=zh (E8.out.trans (hB.mono E8.out.size));clear hB)
    | (go_at_call 9;with_reducible refine(HKN.out _).mono ?_;rintro e w9 ⟨rfl,hB⟩;have E9:=zh hB;clear hB))
   go_ret
   exact⟨rfl,F2.out.trans ((E7.out.trans (E9.out.mono E7.out.size)).mono F2.out.size)⟩
  have HX:=zh (HOK.out hv hf);have HSF:=zh (HSY.out (by have:=HM1.out;omega) hf);have HUX:=zh (HUO.out (by have:=HM1.out;omega) hf);have HPI:=zh (show ∀XX,PI6 40 (rresS d XX xd xn (svTo ct pn z xm)) [d.key]from fun XX=>⟨⟨HDO.out.1,hv,HDO.out.2,rfl,by show(svTo ct pn z xm).length<=40;rw[svTo_len];exact HM1.out,by show(0:Int)<=((40:Nat):Int);omega⟩,by show 1<=40;decide,fun hr=>(by cases hr),whole_res hf d XX⟩);clear hv hf;go_upto_region 7 with (first
   | (refine wpList_load_row rfl _ _ rfl g rfl 25 Y (0,0) _ F1.out HU.out rfl HS1.out ?_)
   | (refine wpList_load_rowG (by rfl) _ _ rfl g rfl 25 Y (0,0) _ F1.out HU.out rfl HS1.out ?_)
   | (go_at_call 16;(with_reducible refine(HX.out _ HC4.out).mono ?_);rintro e w10 ⟨g2,mS,mU,eb,XX,l2,R2,rfl,hT,r1,r2,r3,r4,r5,hB⟩;have E5:=zh hB;have HT5:=zh (soloR_res (N:=fun _=>False) (Below.refl w4.heap.size w4) hT r1 r2 r3 r4 r5 hB (fun k hk=>hk.elim));have F1:=zh (F1.out.below hB F1.out.lt);have FF:=zh (FF.out.below hB FF.out.lt);clear hB hT r1 r2 r3 r4 r5)
   | (go_at_call 8;with_reducible refine(HRV.out _).mono ?_;rintro e w8 ⟨rfl,hB⟩;have E6:=zh hB;have E8:=zh (E5.out.trans (hB.mono E5.out.size));have F1:=zh (F1.out.below hB F1.out.lt);have FF:=zh (FF.out.below hB FF.out.lt);have y0:=FF.out.cell 0;have y1:=FF.out.cell 1;have y2:=FF.out.cell 2;simp only[List.getElem?_toArray,List.getElem?_cons_zero,List.getElem?_cons_succ]at y0 y1 y2;clear hB)
   | (go_at_call 23;with_reducible refine(HSF.out _ (HC4.out.below E8.out)).mono ?_;rintro e w7 ⟨rfl,hB⟩;have E6:=zh (E6.out.trans (hB.mono E6.out.size));have E7:=zh (E8.out.trans (hB.mono E8.out.size));have F1:=zh (F1.out.below hB F1.out.lt);have FF:=zh (FF.out.below hB FF.out.lt);clear hB))
  clear z0 z1 z2 y0 y1 y2;have z0:=FF.out.cell 0;have z1:=FF.out.cell 1;have z2:=FF.out.cell 2;simp only[List.getElem?_toArray,List.getElem?_cons_zero,List.getElem?_cons_succ]at z0 z1 z2;have HUY:=zh (HUX.out XX w4 w7 HC4.out E7.out);go_upto_region 8 with (first
   | (refine wpList_load_row rfl _ _ rfl g rfl 25 Y (0,0) _ F1.out HU.out rfl HS1.out ?_)
   | (go_at_call 24;(with_reducible refine(HUY.out).mono ?_);rintro e w11 ⟨rb,A9,c9,nb,M9,rfl,hM,hM9,hB⟩;have HVM:=zh hM;have HM9:=zh hM9;have E11:=zh hB;clear hM hM9 hB))
  have hvm:=HVM.out;rw[lxOf_v]at hvm;have HP11:=zh (pq_both HT5.out E6.out hvm HM9.out (fun k hk=>hk) E11.out);have HPX:=zh (HPI.out XX);clear z0 z1 z2 hvm;obtain⟨s0,hs0⟩:∃s0,s0=rresS d XX xd xn (svTo ct pn z xm):=⟨_,rfl⟩
  have HP0:Hid (PRX w4 w11 g2 rb s0 s0 [d.key] (fun _=>False)):=zh (by rw[hs0];exact HP11.out);rw[<-hs0]at HPX;clear hs0;have hm40:=HM40.out;have m40:(m:Int)<=40:=by omega
  clear hm40;go_wp2;go_loopw [7,9,10] (fun v7 v9 v10 wr=>∃(i:Nat) (g h:Nat) (s:RS) (U:List (Nat->Int)),i<=m/\v10=.int .i64 i/\v7=.pointer (some ⟨g,0,none⟩)/\v9=.pointer (some ⟨h,0,none⟩)/\PRX w4 wr g h s s U (fun _=>False)/\PI6 (40+i) s U) (fun _ _ v10 _=>m+1-(intOf v10).toNat)
  case atStart=>exact⟨0,g2,rb,s0,[d.key],by omega,rfl,rfl,rfl,HP0.out,HPX.out⟩
  case round=>
   obtain⟨i,g3,h3,s,U,hi,rfl,rfl,rfl,hp,hpi⟩:=hrel;have HP:=zh hp;have HI:=zh hpi;have i0:(0:Int)<=(i:Int):=by omega
   have hi9:i<=40:=by omega
   clear hp hpi;by_cases hlt:i < m
   ·have i1:(i:Int) < (m:Int):=by omega
    have HSW:=HSTP.out.below F2.out;obtain⟨lb,lo,rfl,hlb,hlc⟩:=HSW.at_ (by omega);have HSV:=zh (HSW.ok i hlt);have hlow:=HP.out.low;have HRG:=zh (show wr.rangeAt lb (lo+i*35) (S i).arr.toList from fun j v hv=>by
     have hj:j < 35:=by have:=(List.getElem?_eq_some_iff.1 hv).1;simpa[St6.arr_size]using this
     rw[hlow.cell (p:=⟨lb,lo+i*35+j,none⟩) hlb,hlc i hlt j hj,<-hv,Array.getElem?_toList,St6.arr_at _ hj])
    have HPLAY:=zh (play6_ok HP.out HI.out (by omega) (by omega) (S i) HSV.out (S i).arr (by rw[St6.arr_size];exact infoSt6) (fun j hj=>St6.arr_at _ hj));have HSA:Hid ((Tryz.prog.info? 57).map (·.size)=some (S i).arr.toList.length):=zh (by rw[Array.length_toList,St6.arr_size];exact infoSt6);have HUS:=zh Tryz.underlying57;obtain⟨XC,hXC⟩:∃XC,XC=(S i).arr:=⟨_,rfl⟩
    rw[<-hXC]at HRG HPLAY HSA;clear HSW hlow hlb hlc hXC;go_upto_region 12 with (first
     | (refine wpList_load_mid rfl _ _ rfl lb (lo+i*35) rfl XC.toList _ HRG.out HUS.out rfl HSA.out ?_)
     | (go_at_call 25;refine(HPLAY.out).mono ?_;rintro e w12 ⟨g5,h5,rfl,s5,U5,hp5,hi5⟩;have HP5:=zh hp5;have HI5:=zh hi5;clear hp5 hi5))
    have HLK:=zh (looks6_ok HP5.out (by have:=HI5.out.ri.few;omega));go_wp2_with (go_at_call 26;refine(HLK.out).mono ?_;rintro e w13 ⟨rfl,hp6,hk6⟩;have HP6:=zh hp6;clear hp6 hk6);go_roundw
    case rel=>exact⟨i+1,g5,h5,s5,U5,by omega,by go_num,rfl,rfl,HP6.out,HI5.out⟩
    case measure=>simp[intOf];omega
   ·obtain rfl:m=i:=by omega
    have i1:¬(m:Int) < (m:Int):=by omega
    have HLK:=zh (looks6_ok HP.out (by have:=HI.out.ri.few;omega));have HLOW:=zh (fun W (hb:Below w4.heap.size w4 W)=>F2.out.trans (hb.mono F2.out.size));clear hlt hi hi9;go_wp2_with (first
     | (go_at_call 26;refine(HLK.out).mono ?_;rintro e w13 ⟨rfl,hp6,hk6⟩;have HB13:=zh (HLOW.out _ hp6.low);clear hp6 hk6)
     | (go_at_call 9;refine(HKN.out _).mono ?_;rintro e w14 ⟨rfl,hB⟩;have HB14:=zh hB;clear hB))
    go_ret
    exact⟨rfl,HB13.out.trans (HB14.out.mono HB13.out.size)⟩
end Go.Proofs.YtnadmdadcpemnaaGreat
