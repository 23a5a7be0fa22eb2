import Derived.Test.YtnadmdadcpemnaaGreatMCFq
import Derived.Test.YtnadmdadcpemnaaGreatMREq
set_option maxRecDepth 100000
set_option maxHeartbeats 6400000
namespace Go.Proofs.YtnadmdadcpemnaaGreat
set_option linter.unusedVariables false
set_option linter.unusedSimpArgs false
open Go.RowKit
attribute [local go_sem ↓] Go.wp_at_zero Go.wp_at_succ
theorem rnew_ok (cf:Cfg) (w:World) (hcv:cf.Valid):Calls Tryz.prog 10 #[.agg cf.arr] w fun e w'=>∃v,e=.returned (.tuple #[v,.int .i64 0])/\RxNew cf w.heap.size w v w':=by
 have HRS:=zh (fun W=>rresume0A cf W hcv);have HS:Hid ((Tryz.prog.info? 25).map (·.size)=some cf.arr.size):=zh (by rw[cf.arr_size];exact infoPd);obtain⟨Z,hZ⟩:∃Z,Z=cf.arr:=⟨_,rfl⟩
 rw[<-hZ]at HS HRS ⊢;have HU:=zh Tryz.underlying25;have HB:Hid (Blk (w.alloc (.cells Z 25)) w.heap.size 25 Z):=zh (Blk.new _ _ _);have HBB:Hid (Below w.heap.size w (w.alloc (.cells Z 25))):=zh ((Below.refl _ w).alloc (Nat.le_refl _) _);clear hZ hcv;go_enter Tryz.func10,Tryz.ntmps10;go_wp2_with (first
  | (refine wpList_load_row rfl _ _ rfl w.heap.size rfl 25 Z (0,0) _ HB.out HU.out rfl HS.out ?_)
  | (go_at_call 16;refine(HRS.out _).mono ?_;rintro e w2 ⟨v,rfl,hN⟩;have HN:=zh hN;clear hN))
 go_ret2;obtain⟨g,mS,mU,eb,X,h0,h1,h2,h3,h4,h5,h6⟩:=HN.out;have hs:=HBB.out.size
 exact⟨v,rfl,g,mS,mU,eb,X,h0,h1,Nat.le_trans hs h2,Nat.le_trans hs h3,Nat.le_trans hs h4,Nat.le_trans hs h5,HBB.out.trans (h6.mono hs)⟩
def TickO (g:Nat) (s:RS) (W R:Nat->Prop) (sb ub eb:Nat) (t:Int) (w:World) (e:Ending) (w':World):Prop:=
 ∃l' A c lo,e=.returned (.tuple #[.slice A lo.length c,.int .i64 (s.tick t).2.1])/\OutM w' w.heap.size A c lo/\lo.map (·.v)=(s.tick t).1/\(∀x,x∈lo->Pkt w' R x.A x.v.n x.c x.v.z)/\RxM w' g (s.tick t).2.2 W R sb l' ub eb/\KeepF W w w'
theorem tick_ok (g:Nat) (s:RS) (W R:Nat->Prop) (sb:Nat) (l:List SE) (ub eb:Nat) (w:World) (h:RxM w g s W R sb l ub eb) (hro:0<=s.C.ro/\s.C.ro<=1073741824) (hl:l.length<=250) (t:Int) :
  Calls Tryz.prog 13 #[.pointer (some ⟨g,0,none⟩),.int .i64 t] w (TickO g s W R sb ub eb t w):=by
 have HAT:=zh (rat_ok g s W R sb l ub eb w h t);have HT:=zh h;have HRO:=zh hro;have HL:=zh hl;clear h hro hl;by_cases hbt:1073741824<=t
 ·have HX:=zh (show s.tick t=([],2,s) by unfold RS.tick;rw[if_pos hbt]);go_enter Tryz.func13,Tryz.ntmps13;go_wp2_with (go_at_call 30;refine(HAT.out).mono ?_;rintro e w2 ⟨he,hT2,hk2⟩;rw[if_pos hbt]at he hT2;subst he;have HT2:=zh hT2;have HK2:=zh hk2;clear hT2 hk2);go_ret2
  exact⟨l,none,0,[],by rw[HX.out];rfl,⟨SL.nil _ _ _,fun a h=>by cases h⟩,by rw[HX.out];rfl,fun x h=>by simp at h,by rw[HX.out];exact HT2.out,HK2.out.mono (fun k e=>by rw[e];exact HT.out.wg)⟩
 ·have HX:=zh (show s.tick t=((s.at_ t).expire.1,0,(s.at_ t).expire.2) by unfold RS.tick;rw[if_neg hbt]);go_enter Tryz.func13,Tryz.ntmps13;go_wp2_with (first
   | (go_at_call 30;refine(HAT.out).mono ?_;rintro e w2 ⟨he,hT2,hk2⟩;rw[if_neg hbt]at he hT2;subst he;have HT2:=zh hT2;have HK2:=zh hk2;clear hT2 hk2)
   | (go_at_call 31;refine(rexpire_any g (s.at_ t) W R sb l ub eb w2 HT2.out HRO.out HL.out).mono ?_;rintro e w3 ⟨A1,c1,lo1,l1,rfl,hM1,hm1,hs1,hs2,hT3,hk3⟩;have HM1:=zh (And.intro hM1 (And.intro hm1 (And.intro hs1 hs2)));have HT3:=zh hT3;have HK3:=zh hk3;clear hM1 hm1 hs1 hs2 hT3 hk3))
  go_ret2
  exact⟨l1,A1,c1,lo1,by rw[HX.out];rfl,⟨HM1.out.1.1,fun a ha=>Nat.le_trans HK2.out.size (HM1.out.1.2 a ha)⟩,by rw[HX.out];exact HM1.out.2.1,fun x hx=>(HT2.out.pk x (HM1.out.2.2.1 x hx)).keep HK3.out (fun k hw hr=>HT.out.dis k hw hr),by rw[HX.out];exact HT3.out,(HK2.out.mono (G:=W) (fun k e=>by rw[e];exact HT.out.wg)).trans HK3.out (fun _ _ h=>h)⟩
theorem dups_ok (g:Nat) (s:RS) (W R:Nat->Prop) (sb:Nat) (l:List SE) (ub eb:Nat) (w:World) (h:RxM w g s W R sb l ub eb):Calls Tryz.prog 17 #[.pointer (some ⟨g,0,none⟩)] w fun e w'=>e=.returned (.int .i64 s.dup)/\w=w':=by
 have h2:=h.cdup;clear h;go_enter Tryz.func17,Tryz.ntmps17;go_wp2;go_ret
 exact⟨rfl,rfl⟩
theorem gets_yes (A:Option Addr) (c:Nat) (lo:List SE) (R:Nat->Prop) (B:Option Addr) (m cb:Nat) (f:Nat->Int) (w:World) (hS:SL w 35 1 A lo.length c (lo.map SE.val)) (hP:∀x,x∈lo->Pkt w R x.A x.v.n x.c x.v.z)
  (hB:Row w w.heap.size B m (fun j=>.int .u8 (f j))) (hm:lo.length=m) (hm9:m<=1000000) (hv:∀k e,lo[k]? = some e->e.v.n=1/\e.v.z 0=f k) :
  Calls Tryz.prog 28 #[.slice A lo.length c,.int .i64 0,.slice B m cb] w fun e w'=>e=.returned (.bool true)/\KeepF (fun _=>False) w w':=by
 have HS:=zh hS;have HP:=zh hP;have HB:=zh hB;have HV:=zh hv;obtain⟨n,hn⟩:∃n,n=lo.length:=⟨_,rfl⟩
 rw[<-hn]at HS hm ⊢;have HN:=zh hn;subst hm;clear hS hP hB hv hn;have hne:((n:Int) != (n:Int))=false:=by simp
 go_enter Tryz.func28,Tryz.ntmps28;go_wp2;go_loopw [7] (fun v7 wr=>∃k:Nat,k<=n/\v7=.int .i64 k/\KeepF (fun _=>False) w wr) (fun v7 _=>n-(intOf v7).toNat)
 case atStart=>exact⟨0,by omega,rfl,KeepF.refl⟩
 case round=>
  obtain⟨k,hk,rfl,hK⟩:=hrel;have HK:=zh hK;clear hK;by_cases hkn:k < n
  ·have hkl:k < lo.length:=by rw[<-HN.out];exact hkn
   obtain⟨e,he⟩:∃e,lo[k]? = some e:=⟨lo[k],List.getElem?_eq_getElem hkl⟩
   obtain⟨h1,h0⟩:=HV.out k e he;have hmem:e∈lo:=List.mem_of_getElem? he;have hpk:=HP.out e hmem;obtain⟨ab,ao,hA,hab⟩:=HS.out.some_ (by omega);have ca:w.cell? ⟨ab,ao+k,none⟩=some (.slice e.A 1 e.c):=by
    rw[HS.out.cell hA (by omega),List.getElem?_map,he];show some (SE.val e)=_;unfold SE.val;rw[h1]
   obtain⟨xb,xo,hX,hxb,hxc⟩:=hpk.row (by omega);have cx:w.cell? ⟨xb,xo,none⟩=some (.int .u8 (f k)):=by have:=hxc 0 (by omega);simp only[Nat.add_zero]at this;rw[h0]at this;exact this
   obtain⟨bb,bo,hBB,hbb,hbc⟩:=HB.out (by omega);have cb1:w.cell? ⟨bb,bo+k,none⟩=some (.int .u8 (f k)):=hbc k hkn;have HC:=zh (show ∀W,KeepF (fun _=>False) w W->W.cell? ⟨ab,ao+k,none⟩=some (.slice e.A 1 e.c)/\W.cell? ⟨xb,xo,none⟩=some (.int .u8 (f k))/\W.cell? ⟨bb,bo+k,none⟩=some (.int .u8 (f k))from fun W hW=>⟨(hW.cell (p:=⟨ab,ao+k,none⟩) hab (fun h=>h)).trans ca,(hW.cell (p:=⟨xb,xo,none⟩) hxb (fun h=>h)).trans cx,(hW.cell (p:=⟨bb,bo+k,none⟩) hbb (fun h=>h)).trans cb1⟩);rw[hX]at HC;subst hA hBB;obtain⟨x,hx⟩:∃x,x=f k:=⟨_,rfl⟩
   rw[<-hx]at HC;obtain⟨ec,hec⟩:∃c,c=e.c:=⟨_,rfl⟩
   rw[<-hec]at HC;have hxx:((x:Int) != x)=false:=by simp
   have k0:(0:Int)<=(k:Int):=by omega
   have k1:(k:Int) < (n:Int):=by omega
   clear he h1 h0 hmem hpk hab hX hxb hxc cx ca hbb hbc cb1 hx hec hkl;go_upto_region 6 with (fail)
   obtain⟨q1,q2,q3⟩:=HC.out wr HK.out;go_quiet (fail);go_wp2;go_roundw
   case rel=>exact⟨k+1,by omega,by go_num,HK.out.drewN _⟩
   case measure=>simp[intOf];omega
  ·obtain rfl:k=n:=by omega
   go_wp2;go_ret
   exact⟨rfl,HK.out⟩
def Pdu1 (w:World) (B:Nat) (cf:Cfg) (i:Nat) (p:Option Addr×Nat):Prop:=
 Row w w.heap.size p.1 (pduN cf 1) (fun j=>.int .u8 ((pduZ cf i 1 (fun _=>i) j:Nat):Int))/\pduN cf 1<=p.2/\∀a,p.1=some a->B<=a.block
theorem Pdu1.keep {w w':World} {B:Nat} {cf:Cfg} {i:Nat} {p:Option Addr×Nat} {F:Nat->Prop} (h:Pdu1 w B cf i p) (hk:KeepF F w w') (hF:∀a,p.1=some a->¬F a.block):Pdu1 w' B cf i p:=
 ⟨(hk.row h.1 (Nat.le_refl _) (fun a ha _=>hF a ha)).more hk.size,h.2⟩
def pv (cf:Cfg) (p:Option Addr×Nat):Value:=.slice p.1 (pduN cf 1) p.2
def FirstI (w:World) (cf:Cfg) (k:Nat) (A:Option Addr) (c:Nat) (W:World):Prop:=
 ∃L:List (Option Addr×Nat),L.length=k/\SL W 35 1 A k c (L.map (pv cf))/\(∀i p,L[i]? = some p->Pdu1 W w.heap.size cf i p/\∀a a',p.1=some a->A=some a'->a.block ≠ a'.block)/\(∀a,A=some a->w.heap.size < a.block)/\Below w.heap.size w W/\Blk W w.heap.size 25 cf.arr
def FirstO (w:World) (cf:Cfg) (n:Nat) (e:Ending) (w':World):Prop:=∃A c,e=.returned (.slice A n c)/\FirstI w cf n A c w'
theorem first_ok (cf:Cfg) (hok:cf.Ok) (hv:cf.Valid) (hig:cf.ig=false) (n:Nat) (hn:n<=100) (w:World):Calls Tryz.prog 27 #[.agg cf.arr,.int .i64 (n:Int)] w (FirstO w cf n):=by
 have HPD:=zh (fun(ct:Nat) (hct:ct < 4294967296) (W:World) (x:Nat) (hx:x < 256) (b:Nat) (hb:Blk W b 5 #[.int .u8 ((x:Nat):Int)])=>rpdu_plain cf hok hv hig ct hct (some ⟨b,0,none⟩) 1 1 (fun _=>x) (by omega) (by omega) W (fun _=>⟨b,0,rfl,hb.lt,fun j hj=>by
  obtain rfl:j=0:=by omega
  exact hb.cell 0⟩) (fun _ _=>hx))
 have HS:Hid ((Tryz.prog.info? 25).map (·.size)=some cf.arr.size):=zh (by rw[cf.arr_size];exact infoPd);obtain⟨Z,hZ⟩:∃Z,Z=cf.arr:=⟨_,rfl⟩
 rw[<-hZ]at HS HPD ⊢;have HZ:=zh hZ;have HU:=zh Tryz.underlying25;obtain⟨pn,hpn⟩:∃m,m=pduN cf 1:=⟨_,rfl⟩
 have HPN:=zh hpn;obtain⟨i0,hi0,hz0,hz1,hz2⟩:=info_parts Tryz.infoSl;obtain⟨ob,hob⟩:∃ob,ob=w.heap.size:=⟨_,rfl⟩
 have HOB:=zh hob;have HW1:=zh (show Blk (w.alloc (.cells Z 25)) ob 25 Z/\Below w.heap.size w (w.alloc (.cells Z 25))from ⟨by rw[hob];exact Blk.new _ _ _,bnA _⟩);clear hZ hok hv hig hpn hob;go_enter Tryz.func27,Tryz.ntmps27;go_wp2;rw[<-HOB.out];go_loopw [5,6] (fun v5 v6 wr=>∃(k:Nat) (A:Option Addr) (c:Nat),k<=n/\v6=.int .i64 k/\v5=.slice A k c/\FirstI w cf k A c wr) (fun _ v6 _=>n-(intOf v6).toNat)
 case atStart=>exact⟨0,none,0,by omega,rfl,rfl,[],rfl,SL.nil _ _ _,fun i p h=>(by simp at h),fun a h=>(by cases h),HW1.out.2,by rw[<-HOB.out,<-HZ.out];exact HW1.out.1⟩
 case round=>
  obtain⟨k,A,c,hk,rfl,rfl,L,hL,hS,hP,hA,hB,hBZ⟩:=hrel;rw[<-HOB.out,<-HZ.out]at hBZ;have HL:=zh hL;have HSL:=zh hS;have HP:=zh hP;have HA:=zh hA;have HB:=zh hB;have HBZ:=zh hBZ;clear hL hS hP hA hB hBZ;by_cases hkn:k < n
  ·have k0:(0:Int)<=(k:Int):=by omega
   have k1:(k:Int) < (n:Int):=by omega
   have k2:(n:Int)<=100:=by omega
   have hk256:k < 256:=by omega
   have HCALL:=zh (HPD.out k (by omega) (wr.alloc (.cells #[.int .u8 (k:Int)] 5)) k hk256 wr.heap.size (Blk.new _ _ _));have hc8:IntKind.u8.wrap (k:Int)=(k:Int):=by rw[IntKind.wrap_u8];omega
   have hc32:IntKind.u32.wrap (k:Int)=(k:Int):=by rw[IntKind.wrap_u32];omega
   have hka:Below wr.heap.size wr (wr.alloc (.cells #[.int .u8 (k:Int)] 5)):=bnA _;have HKA:=zh hka;clear hka;go_wp2_with (first
    | (refine wpList_load_row rfl _ _ rfl ob rfl 25 Z (0,0) _ HBZ.out HU.out rfl HS.out ?_)
    | (go_at_call 12;refine(HCALL.out).mono ?_;rintro e W2 ⟨A2,c2,rfl,hs2,hf2,hb2⟩;have HS2:=zh hs2;have HF2:=zh hf2;have HB2:=zh (HKA.out.trans (hb2.mono (HKA.out.size)));clear hs2 hf2 hb2)
    | (at_builtin;refine wpList_sl_append rfl _ _ 34 34 rfl _ 35 i0 (.slice none 0 0) 1 24 Tryz.underlying34 hi0 hz0 hz1 hz2 rfl A k c _ rfl ((HSL.out.next HB2.out).next ((Below.refl _ W2).alloc (Nat.le_refl _) _)) (.slice (some ⟨W2.heap.size,0,none⟩) 1 1) rfl 1 [.slice A2 (pduN cf 1) c2] (src_new W2 (.slice A2 (pduN cf 1) c2) rfl) (by omega) (by unfold maxLen;omega) (by omega) ?_;intro A3 c3 w6 hs6 hk6 ho6;have HS6:=zh hs6;have HK6:=zh hk6;have HO6:=zh ho6;clear hs6 hk6 ho6))
   go_roundw
   case rel=>
    refine⟨k+1,A3,c3,by omega,by go_num,rfl,?_⟩;have hn1:1<=pduN cf 1:=by unfold pduN;omega
    obtain⟨W3,hW3⟩:∃W,W=W2.alloc (.cells #[.slice A2 (pduN cf 1) c2] 35):=⟨_,rfl⟩
    rw[<-hW3]at HK6 HO6;have hb3:Below W2.heap.size W2 W3:=by rw[hW3];exact bnA _
    have hb:Below wr.heap.size wr W3:=HB2.out.trans (hb3.mono HB2.out.size);have hsz:=hb.size;have hs23:=hb3.size;have hws:=HB.out.size;have hbz:=HBZ.out.lt;have hobw:ob=w.heap.size:=HOB.out;have plt:∀(i:Nat) (p:Option Addr×Nat),L[i]? = some p->∀a:Addr,p.1=some a->a.block < wr.heap.size:=fun i p h a ha=>by
     obtain⟨b,o,e1,e2,_⟩:=(HP.out i p h).1.1 (by omega);rw[ha]at e1;cases e1;exact e2
    have hA2:∀a,A2=some a->wr.heap.size < a.block/\a.block < W2.heap.size:=fun a ha=>by
     have h1:=HF2.out a ha;have h2:=HS2.out.lt ha;simp at h1
     exact⟨by omega,h2⟩
    have hAl:∀a,A=some a->a.block < wr.heap.size:=fun a ha=>HSL.out.lt ha;have h2:Pdu1 W2 w.heap.size cf k (A2,c2):=⟨sl_row HS2.out (fun j hj=>by unfold pduL;simp[hj]),HS2.out.le,fun a ha=>by have:=(hA2 a ha).1;omega⟩
    refine⟨L++[(A2,c2)],by simp[HL.out],by rw[List.map_append];exact HS6.out,fun i p hp=>?_,fun a ha=>?_,KeepF.below (HB.out.trans (hb.mono hws)) HK6.out (fun q ⟨a,ha,e⟩=>by have:=HA.out a ha;omega) (by omega),?_⟩
    ·by_cases hi:i < L.length
     ·rw[List.getElem?_append_left hi]at hp;refine⟨((HP.out i p hp).1.keep (KeepF.of_below (F:=fun _=>False) hb) (fun _ _ h=>h)).keep HK6.out (fun a ha ⟨a',ha',e⟩=>(HP.out i p hp).2 a a' ha ha' e),fun a a' ha ha'=>?_⟩;rcases HO6.out a' ha' with ⟨a'',q1,q2⟩ | q2
      ·rw[q2];exact(HP.out i p hp).2 a a'' ha q1
      ·have:=plt i p hp a ha;omega
     ·rw[List.getElem?_append_right (by omega)]at hp;have hie:i=k:=by
       have h9:=(List.getElem?_eq_some_iff.1 hp).1;have h8:=HL.out;simp at h9;omega
      rw[hie,HL.out,Nat.sub_self]at hp;have hpe:p=(A2,c2):=by simpa using hp.symm
      subst hpe;rw[hie];refine⟨(h2.keep (KeepF.of_below (F:=fun _=>False) hb3) (fun _ _ h=>h)).keep HK6.out (fun a ha ⟨a',ha',e⟩=>by have:=(hA2 a ha).1;have:=hAl a' ha';omega),fun a a' ha ha'=>?_⟩;have h7:=hA2 a ha;rcases HO6.out a' ha' with ⟨a'',q1,q2⟩ | q2
      ·have:=hAl a'' q1;omega
      ·omega
    ·rcases HO6.out a ha with ⟨a',q1,q2⟩ | q2
     ·rw[q2];exact HA.out a' q1
     ·omega
    ·rw[<-hobw,<-HZ.out]
     exact HK6.out.blk (HBZ.out.below hb HBZ.out.lt) (fun⟨a,ha,e⟩=>by have:=HA.out a ha;omega)
   case measure=>simp[intOf];omega
  ·obtain rfl:k=n:=by omega
   go_wp2;go_ret
   exact⟨A,c,rfl,L,HL.out,HSL.out,HP.out,HA.out,HB.out,by rw[<-HOB.out,<-HZ.out];exact HBZ.out⟩
def cfR (ro:Int):Cfg:={ Cfg.zero with ro:=ro }
theorem cfR_ok (ro:Int):(cfR ro).Ok:=⟨fun _ _=>⟨by show(0:Int)<=0;decide,by show(0:Int) < 256;decide⟩,fun _ _=>⟨by show(0:Int)<=0;decide,by show(0:Int) < 256;decide⟩⟩
theorem cfR_valid (ro:Int) (h:0<=ro/\ro<=1073741824):(cfR ro).Valid:=⟨by show(0:Int)<=0;decide,by show(0:Int)<=31;decide,.inl rfl,by show(0:Int)<=0;decide,by show(0:Int)<=1073741824;decide,h.1,h.2⟩
def zR (ro:Int):Array Value:=#[.int .i64 0,.int .i64 0,.int .u8 0,.int .u8 0,.int .u8 0,.int .u8 0,.int .u8 0,.int .u8 0,.int .u8 0,.int .u8 0,.int .u8 0,.int .u8 0,.int .u8 0,.int .u8 0,.int .u8 0,.int .u8 0,.int .u8 0,.int .u8 0,.int .u8 0,.int .u8 0,.int .u8 0,.int .u8 0,.int .u8 0,.int .u8 0,.int .u8 0,.int .u8 0,.int .u8 0,.int .u8 0,.int .u8 0,.int .u8 0,.int .u8 0,.int .u8 0,.int .u8 0,.int .u8 0,.bool false,.bool false,.bool false,.int .i64 0,.int .i64 ro]
theorem cfR_arr (ro:Int):(cfR ro).arr=zR ro:=by kernel_rfl
theorem recv_plain (g:Nat) (s:RS) (W R:Nat->Prop) (sb:Nat) (l:List SE) (ub eb:Nat) (w:World) (h:RxM w g s W R sb l ub eb) (ro:Int) (hC:s.C=cfR ro) (hro:0<=ro/\ro<=1073741824) (hl:l.length<=250) (hdup:s.dup < 4611686018427387903) (t:Int)
  (A:Option Addr) (n c:Nat) (z:Nat->Nat) (hn:n<=9223372036854775807) (hnc:n<=c) (hz:∀j,j < n->z j < 256) (hr:Row w w.heap.size A n (fun j=>.int .u8 ((z j:Nat):Int))) (hA:∀a,A=some a->¬W a.block) :
  Calls Tryz.prog 11 #[.pointer (some ⟨g,0,none⟩),.int .i64 t,.slice A n c] w (RecvO g s W R sb ub eb t n z w):=
 receive_ok g s W R sb l ub eb w h (by rw[hC];exact cfR_ok ro) (by rw[hC];rfl) (by rw[hC];exact hro) hl hdup t A n c z hn hnc hz hr (fun a ha _=>hA a ha) (by rw[hC];exact dataAll_plain g _ W R sb ub eb A n c z (cfR_ok ro) (cfR_valid ro hro) rfl hnc hz)
theorem expire_rest {s:RS} (h:s.run=false):s.expire=([],s):=by unfold RS.expire;rw[if_pos (.inl h)]
theorem receive_err {s:RS} {t:Int} {n:Nat} {z:Nat->Nat} {ec:Int} (ht:¬1073741824<=t) (h:s.run=false) (hx:(s.at_ t).take n z=(ec,false,s.at_ t)):s.receive t n z=([],ec,s.at_ t):=by
 have he:(s.at_ t).expire=([],s.at_ t):=expire_rest h;unfold RS.receive;rw[if_neg ht];simp only[he,hx]
 rfl
theorem KeepF.toBelow {F:Nat->Prop} {w w':World} (h:KeepF F w w') (hF:∀k,F k->w.heap.size<=k):Below w.heap.size w w':=KeepF.below (Below.refl _ w) h hF (Nat.le_refl _)
theorem row_lit (w:World) (cs:Array Value) (n:Nat) (z:Nat->Nat) (hn:n=cs.size) (h:∀j,j < n->cs[j]? = some (.int .u8 ((z j:Nat):Int))):Row (w.alloc (.cells cs 5)) (w.alloc (.cells cs 5)).heap.size (some ⟨w.heap.size,0,none⟩) n (fun j=>.int .u8 ((z j:Nat):Int)):=fun _=>
 ⟨w.heap.size,0,rfl,(Blk.new w 5 cs).lt,fun j hj=>by rw[Nat.zero_add];exact((Blk.new w 5 cs).cell j).trans (h j hj)⟩
theorem known2_true (w:World):Calls Tryz.prog 29 #[] w fun e w'=>e=.returned (.bool true)/\Below w.heap.size w w':=by
 have HNEW:=zh (fun W=>rnew_ok (cfR 0) W (cfR_valid 0 (by decide)));rw[cfR_arr]at HNEW;go_enter Tryz.func29,Tryz.ntmps29;go_upto_region 4 with (go_at_call 10;refine(HNEW.out _).mono ?_;rintro e w2 ⟨v,rfl,g,mS,mU,eb,X,rfl,hT,h1,h2,h3,h4,hB⟩;have HT:=zh hT;have HB:=zh hB;have HF:=zh (And.intro h1 (And.intro h2 (And.intro h3 h4)));clear hT h1 h2 h3 h4 hB)
 obtain⟨W3,hW3⟩:∃W,W=w2.alloc (.cells #[.int .u8 144,.int .u8 0,.int .u8 1] 5):=⟨_,rfl⟩
 have hb3:Below w2.heap.size w2 W3:=by rw[hW3];exact bnA _
 have hr3:=row_lit w2 #[.int .u8 144,.int .u8 0,.int .u8 1] 3 (fun j=>if j=0 then 144 else if j=1 then 0 else 1) rfl (fun j hj=>by
  rcases (by omega:j=0\/j=1\/j=2)with rfl | rfl | rfl<;>rfl)
 rw[<-hW3]at hr3;have hT3:=HT.out.below hb3;have hwin:=HT.out.win;have HR1:=zh (recv_plain g _ _ _ mS [] mU eb W3 hT3 0 rfl (by decide) (by decide) (by show(0:Int) < _;decide) 0 (some ⟨w2.heap.size,0,none⟩) 3 3 _ (by omega) (by omega) (fun j hj=>by
  show(if j=0 then 144 else if j=1 then 0 else 1) < 256
  split<;>(try split)<;>omega) hr3 (fun a ha hw=>by cases ha;have:=hwin _ hw;simp only at this;omega))
 have HX1:=zh (show(rnewS (cfR 0) X).receive 0 3 (fun j=>if j=0 then 144 else if j=1 then 0 else 1)=([],9,(rnewS (cfR 0) X).at_ 0)from receive_err (by decide) rfl (by
  unfold RS.take;rw[if_neg (by show ¬3 < 2;decide),if_pos (by decide)]))
 rw[hW3]at HR1;have HB3:=zh hb3;have HW3:=zh hW3;clear hr3 hT3 hwin hW3 hb3;go_upto_region 5 with (go_at_call 11;refine(HR1.out).mono ?_;rintro e w4 ⟨R',l',A4,c4,lo4,rfl,hM4,hm4,hp4,hT4,hr4,hr4b,hk4⟩;rw[HX1.out]at hm4 hT4 ⊢;have HT4:=zh hT4;have HK4:=zh hk4;clear hM4 hp4 hr4 hr4b hT4 hk4)
 obtain⟨W5,hW5⟩:∃W,W=w4.alloc (.cells #[.int .u8 128] 5):=⟨_,rfl⟩
 have hb5:Below w4.heap.size w4 W5:=by rw[hW5];exact bnA _
 have hr5:=row_lit w4 #[.int .u8 128] 1 (fun j=>128) rfl (fun j hj=>by
  obtain rfl:j=0:=by omega
  rfl)
 rw[<-hW5]at hr5;have hT5:=HT4.out.below hb5;have hwin:=HT4.out.win;have hl0:l'.length=0:=by
  have h:=congrArg List.length HT4.out.lv;rw[List.length_map]at h
  exact h
 have HR2:=zh (recv_plain g _ _ _ mS l' mU eb W5 hT5 0 rfl (by decide) (by omega) (by show(0:Int) < _;decide) 0 (some ⟨w4.heap.size,0,none⟩) 1 1 _ (by omega) (by omega) (fun j hj=>by
  show 128 < 256;omega) hr5 (fun a ha hw=>by cases ha;have:=hwin _ hw;simp only at this;omega))
 have HX2:=zh (show((rnewS (cfR 0) X).at_ 0).receive 0 1 (fun j=>128)=([],5,((rnewS (cfR 0) X).at_ 0).at_ 0)from receive_err (by decide) rfl (by
  unfold RS.take;rw[if_pos (by show 1 < 2;decide)]))
 rw[hW5]at HR2;have HB5:=zh hb5;have HW5:=zh hW5;clear hr5 hT5 hwin hW5 hb5 hl0;go_wp2_with (go_at_call 11;refine(HR2.out).mono ?_;rintro e w6 ⟨R2,l2,A6,c6,lo6,rfl,hM6,hm6,hp6,hT6,hr6,hr6b,hk6⟩;rw[HX2.out];have HK6:=zh hk6;clear hM6 hp6 hr6 hr6b hT6 hk6);go_ret;have k4:=HK4.out;have k6:=HK6.out;rw[<-HW3.out]at k4;rw[<-HW5.out]at k6;have hf:=HF.out;have hs:=HB.out.size;refine⟨rfl,KeepF.toBelow (F:=fun k=>w.heap.size<=k) (((((KeepF.of_below HB.out).trans (KeepF.of_below (F:=fun _=>False) HB3.out) (fun _ _ h=>h.elim)).trans k4 (fun k _ h=>?_)).trans (KeepF.of_below (F:=fun _=>False) HB5.out) (fun _ _ h=>h.elim)).trans k6 (fun k _ h=>?_)) (fun k h=>h)⟩
 ·rcases h with rfl | rfl | rfl | rfl<;>omega
 ·rcases h with rfl | rfl | rfl | rfl<;>omega
end Go.Proofs.YtnadmdadcpemnaaGreat
namespace Go.Proofs.YtnadmdadcpemnaaGreat
set_option linter.unusedVariables false
set_option linter.unusedSimpArgs false
open Go.RowKit
theorem pduZ_0 (cf:Cfg) (ct n:Nat) (z:Nat->Nat):pduZ cf ct n z 0=128+ct / 256 % 16:=by
 unfold pduZ catF hdB;rw[if_pos (by omega),if_pos rfl]
theorem pduZ_1 (cf:Cfg) (ct n:Nat) (z:Nat->Nat):pduZ cf ct n z 1=ct % 256:=by
 unfold pduZ catF hdB;rw[if_pos (by omega),if_neg (by omega)]
theorem pduZ_2 (cf:Cfg) (ct n:Nat) (z:Nat->Nat) (j:Nat):pduZ cf ct n z (2+j)=cryF (nf cf.key) ct cf.b.toNat cf.d.toNat (plainZ cf ct n z) j:=by
 unfold pduZ catF;rw[if_neg (by omega),show 2+j-2=j by omega]
theorem snOf_pdu (cf:Cfg) (ct n:Nat) (z:Nat->Nat):snOf (pduZ cf ct n z)=ct % 4096:=by
 unfold snOf;rw[pduZ_0,pduZ_1];omega
theorem dataZ_back (cf:Cfg) (ct n:Nat) (z:Nat->Nat) (j:Nat):dataZ cf ct (pduZ cf ct n z) j=plainZ cf ct n z j:=by
 unfold dataZ;rw[show(fun j=>pduZ cf ct n z (2+j))=cryF (nf cf.key) ct cf.b.toNat cf.d.toNat (plainZ cf ct n z)from funext fun j=>pduZ_2 cf ct n z j]
 exact cryF_back _ _ _ _ _ _
def svP (cf:Cfg) (ct n:Nat) (z:Nat->Nat):SV:=⟨ct,n,fun j=>((plainZ cf ct n z j:Nat):Int)⟩
theorem take_pdu (s:RS) (hig:s.C.ig=false) (ct n:Nat) (z:Nat->Nat) (h1:1<=n) (h9:n<=9000) (hc:cntOf s.deliver ((ct % 4096:Nat):Int)=some (ct:Int)) :
  s.take (pduN s.C n) (pduZ s.C ct n z)=if stored s.L ct=true\/(ct:Int) < s.deliver then (0,false,{ s with dup:=s.dup+1 }) else (0,true,{ s with L:=insV (svP s.C ct n z) s.L,next:=max s.next ((ct:Int)+1) }):=by
 have hn:pduN s.C n=2+n:=by unfold pduN plainN;rw[if_neg (by rw[hig];decide)]
 have hl:s.C.least=2:=by unfold Cfg.least;rw[hig];rfl
 have hd:dataN s.C (2+n)=n:=by unfold dataN;rw[hl];omega
 have hz:(fun j=>((dataZ s.C ct (pduZ s.C ct n z) j:Nat):Int))=fun j=>((plainZ s.C ct n z j:Nat):Int):=funext fun j=>by rw[dataZ_back]
 have hco:¬codeOk s.C ct (2+n) (pduZ s.C ct n z)=false:=by unfold codeOk;rw[hig];simp
 rw[hn];unfold RS.take;rw[if_neg (by rw[hl];omega),if_neg (by rw[pduZ_0];omega),snOf_pdu,hc];simp only[Int.toNat_natCast];rw[if_neg (by omega),if_neg hco,hd,hz]
 split
 ·rfl
 ·rw[if_neg (by omega),if_neg (by omega)]
  rfl
theorem cnt_small {d:Int} {ct:Nat} (h0:0<=d) (h1:d<=1000) (h2:ct<=1000):cntOf d ((ct % 4096:Nat):Int)=some (ct:Int):=by
 have hh:cntH d ((ct % 4096:Nat):Int)=0:=by
  unfold cntH;rw[if_neg (by omega),if_neg (by omega)];omega
 unfold cntOf;rw[hh,if_pos (by decide)];congr 1;omega
theorem receive_dup {s:RS} {t:Int} (ht:¬1073741824<=t) (hr:s.run=false) (hig:s.C.ig=false) (ct n:Nat) (z:Nat->Nat) (h1:1<=n) (h9:n<=9000) (hc:cntOf s.deliver ((ct % 4096:Nat):Int)=some (ct:Int)) (hd:stored s.L ct=true\/(ct:Int) < s.deliver) :
  s.receive t (pduN s.C n) (pduZ s.C ct n z)=([],0,{ s.at_ t with dup:=s.dup+1 }):=by
 have he:(s.at_ t).expire=([],s.at_ t):=expire_rest hr;have hx:=take_pdu (s.at_ t) hig ct n z h1 h9 hc;rw[if_pos (show stored (s.at_ t).L ct=true\/(ct:Int) < (s.at_ t).deliver from hd)]at hx;unfold RS.receive;rw[if_neg ht];simp only[he];rw[show pduN s.C n=pduN (s.at_ t).C n from rfl,show pduZ s.C ct n z=pduZ (s.at_ t).C ct n z from rfl,hx]
 rfl
theorem receive_new {s:RS} {t:Int} (ht:¬1073741824<=t) (hr:s.run=false) (hig:s.C.ig=false) (ct n:Nat) (z:Nat->Nat) (h1:1<=n) (h9:n<=9000) (hc:cntOf s.deliver ((ct % 4096:Nat):Int)=some (ct:Int)) (hd:¬(stored s.L ct=true\/(ct:Int) < s.deliver)) (s2:RS) (h2:s2={ s.at_ t with L:=insV (svP s.C ct n z) s.L,next:=max s.next ((ct:Int)+1) }) :
  s.receive t (pduN s.C n) (pduZ s.C ct n z)=(s2.deliver_.1,0,s2.deliver_.2.timer):=by
 have he:(s.at_ t).expire=([],s.at_ t):=expire_rest hr;have hx:=take_pdu (s.at_ t) hig ct n z h1 h9 hc;rw[if_neg (show ¬(stored (s.at_ t).L ct=true\/(ct:Int) < (s.at_ t).deliver)from hd)]at hx;unfold RS.receive;rw[if_neg ht];simp only[he];rw[show pduN s.C n=pduN (s.at_ t).C n from rfl,show pduZ s.C ct n z=pduZ (s.at_ t).C ct n z from rfl,hx,h2]
 rfl
def kS (ro:Int) (X:Obj) (now d nx:Int) (L:List SV) (run:Bool) (lim ex dup:Int):RS:=⟨cfR ro,now,d,nx,L,run,lim,ex,[kArr (cfR ro).key],X,dup⟩
def sv1 (ro:Int) (k:Nat):SV:=svP (cfR ro) k 1 (fun _=>k)
theorem sv1_ct (ro:Int) (k:Nat):(sv1 ro k).ct=k:=rfl
theorem sv1_z (ro:Int) (k:Nat):(sv1 ro k).z 0=k:=by
 show(((plainZ (cfR ro) k 1 (fun _=>k) 0:Nat)):Int)=k;have h:plainZ (cfR ro) k 1 (fun _=>k) 0=k:=by unfold plainZ catF;rw[if_pos (by omega)]
 rw[h]
theorem ins_lt (x y:SV) (r:List SV) (h:x.ct < y.ct):insV x (y :: r)=x :: y :: r:=by
 show(if x.ct < y.ct then x :: y :: r else y :: insV x r)=_;rw[if_pos h]
theorem from_eq (e:SV) (r:List SV) (d:Int) (h:e.ct=d):fromL (e :: r) d=(e :: (fromL r (d+1)).1,(fromL r (d+1)).2):=by
 show(if e.ct=d then (e :: (fromL r (d+1)).1,(fromL r (d+1)).2) else ([],e :: r,d))=_;rw[if_pos h]
theorem from_ne (e:SV) (r:List SV) (d:Int) (h:e.ct ≠ d):fromL (e :: r) d=([],e :: r,d):=by
 show(if e.ct=d then (e :: (fromL r (d+1)).1,(fromL r (d+1)).2) else ([],e :: r,d))=_;rw[if_neg h]
theorem timer_still {s:RS} (h1:s.run=false) (h2:¬(0 < s.C.ro/\s.deliver < s.next)):s.timer=s:=by
 unfold RS.timer;rw[stop_no (fun h=>by rw[h1]at h;exact absurd h.1 (by decide)),start_no (fun h=>h2 ⟨h.2.1,h.2.2⟩)]
theorem stored_no (L:List SV) (k:Int) (h:∀e,e∈L->e.ct ≠ k):¬stored L k=true:=by
 unfold stored;simp only[List.any_eq_true,decide_eq_true_eq,not_exists,not_and]
 exact h
theorem k_next (ro:Int) (X:Obj) (now:Int) (k:Nat) (hk:k<=100) (t:Int) (ht:0<=t/\t < 1073741824) :
  (kS ro X now k k [] false 0 0 0).receive t (pduN (cfR ro) 1) (pduZ (cfR ro) k 1 (fun _=>k))=([sv1 ro k],0,kS ro X (max now t) (k+1) (k+1) [] false 0 0 0):=by
 have h:=receive_new (s:=kS ro X now k k [] false 0 0 0) (t:=t) (by omega) rfl rfl k 1 (fun _=>k) (by omega) (by omega) (cnt_small (by show(0:Int)<=(k:Int);omega) (by show(k:Int)<=1000;omega) (by omega))
  (by rintro (h | h);exact stored_no [] _ (fun e he=>by cases he) h;exact absurd h (by show ¬(k:Int) < (k:Int);omega)) (kS ro X (max now t) k (k+1) [sv1 ro k] false 0 0 0) (by
   unfold kS RS.at_;have:max (k:Int) (k+1)=k+1:=by omega
   simp only[this]
   rfl)
 rw[show pduN (cfR ro) 1=pduN (kS ro X now k k [] false 0 0 0).C 1 from rfl,show pduZ (cfR ro) k 1 (fun _=>k)=pduZ (kS ro X now k k [] false 0 0 0).C k 1 (fun _=>k)from rfl,h];have hf:fromL [sv1 ro k] (k:Int)=([sv1 ro k],[],(k:Int)+1):=by rw[from_eq _ _ _ (sv1_ct ro k)];rfl
 have hd:(kS ro X (max now t) k (k+1) [sv1 ro k] false 0 0 0).deliver_=([sv1 ro k],kS ro X (max now t) (k+1) (k+1) [] false 0 0 0):=by
  unfold RS.deliver_;rw[show(kS ro X (max now t) k (k+1) [sv1 ro k] false 0 0 0).L=[sv1 ro k]from rfl,show(kS ro X (max now t) k (k+1) [sv1 ro k] false 0 0 0).deliver=(k:Int)from rfl,hf]
  rfl
 rw[hd];simp only;rw[timer_still rfl (by rintro ⟨_,h⟩;exact absurd h (by show ¬((k:Int)+1 < (k:Int)+1);omega))]
theorem k_gap (ro:Int) (X:Obj) (now t:Int) (ht:0<=t/\t < 1073741824) :
  (kS ro X now 1 1 [] false 0 0 0).receive t (pduN (cfR ro) 1) (pduZ (cfR ro) 2 1 (fun _=>2))=([],0,(kS ro X (max now t) 1 3 [sv1 ro 2] false 0 0 0).timer):=by
 have h:=receive_new (s:=kS ro X now 1 1 [] false 0 0 0) (t:=t) (by omega) rfl rfl 2 1 (fun _=>2) (by omega) (by omega) (cnt_small (by show(0:Int)<=1;omega) (by show(1:Int)<=1000;omega) (by omega))
  (by rintro (h | h);exact stored_no [] _ (fun e he=>by cases he) h;exact absurd h (by show ¬((2:Nat):Int) < (1:Int);omega)) (kS ro X (max now t) 1 3 [sv1 ro 2] false 0 0 0) rfl
 rw[show pduN (cfR ro) 1=pduN (kS ro X now 1 1 [] false 0 0 0).C 1 from rfl,show pduZ (cfR ro) 2 1 (fun _=>2)=pduZ (kS ro X now 1 1 [] false 0 0 0).C 2 1 (fun _=>2)from rfl,h];have hd:(kS ro X (max now t) 1 3 [sv1 ro 2] false 0 0 0).deliver_=([],kS ro X (max now t) 1 3 [sv1 ro 2] false 0 0 0):=by
  unfold RS.deliver_;rw[show(kS ro X (max now t) 1 3 [sv1 ro 2] false 0 0 0).L=[sv1 ro 2]from rfl,show(kS ro X (max now t) 1 3 [sv1 ro 2] false 0 0 0).deliver=(1:Int)from rfl,from_ne _ _ _ (by rw[sv1_ct];omega)]
  rfl
 rw[hd]
theorem k_gap0 (X:Obj) (now t:Int) (ht:0<=t/\t < 1073741824) :
  (kS 0 X now 1 1 [] false 0 0 0).receive t (pduN (cfR 0) 1) (pduZ (cfR 0) 2 1 (fun _=>2))=([],0,kS 0 X (max now t) 1 3 [sv1 0 2] false 0 0 0):=by
 rw[k_gap 0 X now t ht,timer_still rfl (by rintro ⟨h,_⟩;exact absurd h (by show ¬(0:Int) < 0;omega))]
theorem k_gap5 (ro:Int) (hro:0 < ro) (X:Obj) (now t:Int) (ht:0<=t/\t < 1073741824) :
  (kS ro X now 1 1 [] false 0 0 0).receive t (pduN (cfR ro) 1) (pduZ (cfR ro) 2 1 (fun _=>2))=([],0,kS ro X (max now t) 1 3 [sv1 ro 2] true 3 (max now t+ro) 0):=by
 rw[k_gap ro X now t ht];unfold RS.timer;rw[stop_no (fun h=>absurd h.1 (by show ¬false=true;decide)),start_yes rfl (by show 0 < ro;exact hro) (by show(1:Int) < 3;omega)]
 rfl
theorem k_fill (X:Obj) (now t:Int) (ht:0<=t/\t < 1073741824) :
  (kS 0 X now 1 3 [sv1 0 2] false 0 0 0).receive t (pduN (cfR 0) 1) (pduZ (cfR 0) 1 1 (fun _=>1))=([sv1 0 1,sv1 0 2],0,kS 0 X (max now t) 3 3 [] false 0 0 0):=by
 have h:=receive_new (s:=kS 0 X now 1 3 [sv1 0 2] false 0 0 0) (t:=t) (by omega) rfl rfl 1 1 (fun _=>1) (by omega) (by omega) (cnt_small (by show(0:Int)<=1;omega) (by show(1:Int)<=1000;omega) (by omega))
  (by rintro (h | h);exact stored_no [sv1 0 2] _ (fun e he=>by rcases List.mem_singleton.1 he with rfl;rw[sv1_ct];omega) h;exact absurd h (by show ¬((1:Nat):Int) < (1:Int);omega)) (kS 0 X (max now t) 1 3 [sv1 0 1,sv1 0 2] false 0 0 0) (by
   show _=_;rw[show insV (svP (kS 0 X now 1 3 [sv1 0 2] false 0 0 0).C 1 1 fun _=>1) (kS 0 X now 1 3 [sv1 0 2] false 0 0 0).L=[sv1 0 1,sv1 0 2]from ins_lt _ _ _ (by show((1:Nat):Int) < ((2:Nat):Int);omega)]
   rfl)
 rw[show pduN (cfR 0) 1=pduN (kS 0 X now 1 3 [sv1 0 2] false 0 0 0).C 1 from rfl,show pduZ (cfR 0) 1 1 (fun _=>1)=pduZ (kS 0 X now 1 3 [sv1 0 2] false 0 0 0).C 1 1 (fun _=>1)from rfl,h];have hd:(kS 0 X (max now t) 1 3 [sv1 0 1,sv1 0 2] false 0 0 0).deliver_=([sv1 0 1,sv1 0 2],kS 0 X (max now t) 3 3 [] false 0 0 0):=by
  unfold RS.deliver_;rw[show(kS 0 X (max now t) 1 3 [sv1 0 1,sv1 0 2] false 0 0 0).L=[sv1 0 1,sv1 0 2]from rfl,show(kS 0 X (max now t) 1 3 [sv1 0 1,sv1 0 2] false 0 0 0).deliver=(1:Int)from rfl,from_eq _ _ _ (by rw[sv1_ct];rfl),from_eq _ _ _ (by rw[sv1_ct];rfl)]
  rfl
 rw[hd];simp only;rw[timer_still rfl (by rintro ⟨h,_⟩;exact absurd h (by show ¬(0:Int) < 0;omega))]
theorem k_again (X:Obj) (now t:Int) (ht:0<=t/\t < 1073741824) :
  (kS 0 X now 3 3 [] false 0 0 0).receive t (pduN (cfR 0) 1) (pduZ (cfR 0) 1 1 (fun _=>1))=([],0,kS 0 X (max now t) 3 3 [] false 0 0 1):=by
 have h:=receive_dup (s:=kS 0 X now 3 3 [] false 0 0 0) (t:=t) (by omega) rfl rfl 1 1 (fun _=>1) (by omega) (by omega) (cnt_small (by show(0:Int)<=3;omega) (by show(3:Int)<=1000;omega) (by omega)) (.inr (by show((1:Nat):Int) < 3;omega));rw[show pduN (cfR 0) 1=pduN (kS 0 X now 3 3 [] false 0 0 0).C 1 from rfl,show pduZ (cfR 0) 1 1 (fun _=>1)=pduZ (kS 0 X now 3 3 [] false 0 0 0).C 1 1 (fun _=>1)from rfl,h]
 rfl
theorem k_wait (X:Obj):(kS 5 X 1 1 3 [sv1 5 2] true 3 6 0).tick 5=([],0,kS 5 X 5 1 3 [sv1 5 2] true 3 6 0):=by
 have he:((kS 5 X 1 1 3 [sv1 5 2] true 3 6 0).at_ 5).expire=([],kS 5 X 5 1 3 [sv1 5 2] true 3 6 0):=by
  unfold RS.expire;rw[if_pos (.inr (by show max (1:Int) 5 < 6;decide))]
  rfl
 unfold RS.tick;rw[if_neg (by omega),he]
theorem k_due (X:Obj):(kS 5 X 5 1 3 [sv1 5 2] true 3 6 0).tick 6=([sv1 5 2],0,kS 5 X 6 3 3 [] false 3 6 0):=by
 have hc:((kS 5 X 5 1 3 [sv1 5 2] true 3 6 0).at_ 6).cut=kS 5 X 6 3 3 [] false 3 6 0:=by
  unfold RS.cut;rw[show highL ((kS 5 X 5 1 3 [sv1 5 2] true 3 6 0).at_ 6).limit ((kS 5 X 5 1 3 [sv1 5 2] true 3 6 0).at_ 6).L=[]from rfl]
  rfl
 have hl:lowL ((kS 5 X 5 1 3 [sv1 5 2] true 3 6 0).at_ 6).limit ((kS 5 X 5 1 3 [sv1 5 2] true 3 6 0).at_ 6).L=[sv1 5 2]:=rfl;have he:((kS 5 X 5 1 3 [sv1 5 2] true 3 6 0).at_ 6).expire=([sv1 5 2],kS 5 X 6 3 3 [] false 3 6 0):=by
  unfold RS.expire;rw[if_neg (by rintro (h | h);exact absurd h (by show ¬true=false;decide);exact absurd h (by show ¬max (5:Int) 6 < 6;decide)),hc,hl];rw[show(kS 5 X 6 3 3 [] false 3 6 0).deliver_=([],kS 5 X 6 3 3 [] false 3 6 0)from rfl];simp only;rw[timer_still rfl (by rintro ⟨_,h⟩;exact absurd h (by show ¬(3:Int) < 3;omega))]
  rfl
 unfold RS.tick;rw[if_neg (by omega),he]
def kord (k:Nat):Nat:=if k=0 then 0 else if k=1 then 2 else 1
def kst (X:Obj) (k:Nat):RS:=if k=0 then kS 0 X 0 0 0 [] false 0 0 0 else if k=1 then kS 0 X 0 1 1 [] false 0 0 0 else if k=2 then kS 0 X 0 1 3 [sv1 0 2] false 0 0 0 else if k=3 then kS 0 X 0 3 3 [] false 0 0 0 else kS 0 X 0 3 3 [] false 0 0 1
def kout (k:Nat):List SV:=if k=0 then [sv1 0 0] else if k=2 then [sv1 0 1,sv1 0 2] else []
def kwant (k j:Nat):Int:=if k=0 then 0 else (j:Int)+1
theorem kst_C (X:Obj) (k:Nat):(kst X k).C=cfR 0:=by unfold kst;split<;>(try split)<;>(try split)<;>(try split)<;>rfl
theorem kst_dup (X:Obj) (k:Nat):0<=(kst X k).dup/\(kst X k).dup<=1:=by unfold kst;split<;>(try split)<;>(try split)<;>(try split)<;>(constructor<;>simp[kS])
theorem kst_L (X:Obj) (k:Nat):(kst X k).L.length<=1:=by unfold kst;split<;>(try split)<;>(try split)<;>(try split)<;>simp[kS]
theorem k_step (X:Obj) (k:Nat) (hk:k < 4):(kst X k).receive 0 (pduN (cfR 0) 1) (pduZ (cfR 0) (kord k) 1 (fun _=>kord k))=(kout k,0,kst X (k+1)):=by
 rcases (by omega:k=0\/k=1\/k=2\/k=3)with rfl | rfl | rfl | rfl
 ·exact k_next 0 X 0 0 (by omega) 0 (by decide)
 ·exact k_gap0 X 0 0 (by decide)
 ·exact k_fill X 0 0 (by decide)
 ·exact k_again X 0 0 (by decide)
theorem k_out (k:Nat) (hk:k < 4) (j:Nat) (v:SV) (h:(kout k)[j]? = some v):v.n=1/\v.z 0=kwant k j:=by
 rcases (by omega:k=0\/k=1\/k=2\/k=3)with rfl | rfl | rfl | rfl
 ·have h':([sv1 0 0]:List SV)[j]? = some v:=h;rcases j with _ | j
  ·have:sv1 0 0=v:=by simpa using h'
   subst this
   exact⟨rfl,sv1_z 0 0⟩
  ·simp at h'
 ·have h':([]:List SV)[j]? = some v:=h;simp at h'
 ·have h':([sv1 0 1,sv1 0 2]:List SV)[j]? = some v:=h;rcases j with _ | j
  ·have:sv1 0 1=v:=by simpa using h'
   subst this
   exact⟨rfl,sv1_z 0 1⟩
  ·rcases j with _ | j
   ·have:sv1 0 2=v:=by simpa using h'
    subst this
    exact⟨rfl,sv1_z 0 2⟩
   ·simp at h'
 ·have h':([]:List SV)[j]? = some v:=h;simp at h'
end Go.Proofs.YtnadmdadcpemnaaGreat
