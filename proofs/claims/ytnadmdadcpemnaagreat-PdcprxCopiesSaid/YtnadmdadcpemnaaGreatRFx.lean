import Derived.Test.YtnadmdadcpemnaaGreatREx
import Derived.Test.YtnadmdadcpemnaaGreatMVMx
namespace Go.Proofs.YtnadmdadcpemnaaGreat
open Go.RowKit
attribute [local go_sem ↓] Go.wp_at_zero Go.wp_at_succ
set_option linter.unusedVariables false
private theorem zh {p:Prop} (h:p):Go.RowKit.Hid p:=h
private theorem tkH {P:Program} {ops:Array Oper} {Q:Exit→Act→World→Prop} {md:Region.Mode} {S:World→Prop} {i:Nat} {oi:Oper} {v:Value} {fuel:Nat} {listed l':Array Bool} {a a':Act} {w:World} (hi:ops[i]? = some oi) (hy:YieldsIf P ops S oi v a) (hS:S w)
  (h:wpAnyH P md ops Q S fuel l' a' w) (hl:listed.setIfInBounds i true=l':=by(try simp only[List.setIfInBounds_toArray,List.set_cons_zero,List.set_cons_succ]);rfl) (ha:a.put oi.dst v=a':=by(try simp only[Act.put,List.setIfInBounds_toArray,List.set_cons_zero,List.set_cons_succ]);rfl) (hs:Region.noSelect ops=true:=by kernel_rfl) (hf:Region.free md ops listed i=true:=by kernel_rfl) (hr:(Region.ready md ops listed).contains i=true:=by kernel_rfl)
  (hQ:∀c a w,Q (.panic c) (a.put oi.dst v) w→Q (.panic c) a w:=by exact fun _ _ _ h=>h):wpAnyH P md ops Q S (fuel+1) listed a w:=by subst hl;subst ha;exact wpAnyH_take hi hs hf hr hQ hy hS h
def cryL (key:Nat→Nat) (ct b d:Nat) (z:Nat→Nat) (k:Nat):List Value:=(List.range k).map fun j=>.int .u8 ((cryF key ct b d z j:Nat):Int)
theorem cryL_succ (key:Nat→Nat) (ct b d:Nat) (z:Nat→Nat) (k:Nat):cryL key ct b d z (k+1)=cryL key ct b d z k++[.int .u8 ((cryF key ct b d z k:Nat):Int)]:=by
 unfold cryL
 rw[List.range_succ,List.map_append]
 rfl
theorem SL.rowOf {w:World} {A:Option Addr} {n c:Nat} {xs:List Value} {e:TypeId} {f:Nat→Value} (h:SL w e 1 A n c xs) (hx:∀j,j < n→xs[j]? = some (f j)):Row w w.heap.size A n f:=fun hn=>by
 obtain⟨b,o,hA,hb⟩:=h.some_ hn
 exact⟨b,o,hA,hb,fun j hj=>(h.cell hA (by omega)).trans (hx j hj)⟩
def RCry (key:Nat→Nat) (ct b d n:Nat) (z:Nat→Nat) (w:World) (e:Ending) (w':World):Prop:=
 ∃A c,e=.returned (.slice A n c)∧SL w' 5 1 A n c (cryL key ct b d z n)∧Fresh w.heap.size A∧Below w.heap.size w w'
theorem KeepF.setRow {F:Nat→Prop} {w w':World} (h:KeepF F w w') {g:Nat} (hg:F g) (cs:Array Value):KeepF F w (w'.setRow g cs):=
 ⟨h.os,h.tape,h.output,by rw[size_setRow];exact h.size,fun k hk hn=>(setRow_other w' g k cs (fun e=>hn (e ▸ hg))).trans (h.block k hk hn)⟩
theorem cry_xor (key:Nat→Nat) (ct b d:Nat) (z:Nat→Nat) (i x:Nat) (hx:x < 256) (hzi:z i=x) (y:Nat) (hy:y < 256) (hyi:aesF key (ctrB ct b d (i / 16)) (i % 16)=y):bits .xor .u8 (x:Int) (y:Int)=((cryF key ct b d z i:Nat):Int):=by
 rw[bx x y _ hx hy rfl]
 unfold cryF ksF
 rw[hzi,hyi]
set_option maxRecDepth 100000 in
set_option maxHeartbeats 3200000 in
theorem rcrypt_ok (key:Nat→Nat) (ct b d:Nat) (hk:B16 key) (hc:ct < 4294967296) (hb:b < 32) (hd:d < 2) (A:Option Addr) (n c:Nat) (z:Nat→Nat) (hn2:n≤1000000) (hz:∀j,j < n→z j < 256) (w:World) (hr:Row w w.heap.size A n (fun j=>.int .u8 ((z j:Nat):Int))) :
  Calls Tryz.prog 37 #[.agg (b16 key),.int .u32 ct,.int .i64 b,.int .i64 d,.slice A n c] w (RCry key ct b d n z w):=by
 obtain⟨i0,hi0,hz0,hz1,hz2⟩:=info_parts Tryz.infoByte
 have HBL:=zh (fun(q:Nat) V (hq:q < 18446744073709551616)=>rblock_ok ct b d q hc hb hd hq V)
 have HEN:=zh (fun q V=>renc_ok key (ctrB ct b d q) hk (ctrB_lt ct b d q) V)
 have HYB:=zh (fun q=>show B16 (aesF key (ctrB ct b d q))from aesF_lt hk (ctrB_lt ct b d q))
 have HXR:=zh (fun i x y h1 h2 h3 h4=>cry_xor key ct b d z i x h1 h2 y h3 h4)
 have HL0:=zh (show cryL key ct b d z 0=[]from rfl)
 have HLS:=zh (fun k=>cryL_succ key ct b d z k)
 have HZ8:=zh hz
 have HR:=zh hr
 obtain⟨EK,hEK⟩:∃EK:Nat→Nat→Nat,EK=fun q=>aesF key (ctrB ct b d q):=⟨_,rfl⟩
 have HEN2:Hid (∀q V,Calls Tryz.prog 69 #[.agg (b16 key),.agg (b16 (ctrB ct b d q))] V fun e w'=>e=.returned (.agg (b16 (EK q)))∧Below V.heap.size V w'):=zh (by rw[hEK];exact HEN.out)
 have HYB2:Hid (∀q,B16 (EK q)):=zh (by rw[hEK];exact HYB.out)
 have HXR2:Hid (∀i x y,x < 256→z i=x→y < 256→EK (i / 16) (i % 16)=y→bits .xor .u8 (x:Int) (y:Int)=((cryF key ct b d z i:Nat):Int)):=zh (by rw[hEK];exact HXR.out)
 obtain⟨CB,hCB⟩:∃CB:Nat→Array Value,CB=fun q=>b16 (ctrB ct b d q):=⟨_,rfl⟩
 have HBL2:Hid (∀(q:Nat) V,q < 18446744073709551616→Calls Tryz.prog 67 #[.int .u32 ct,.int .i64 b,.int .i64 d,.int .u64 (q:Nat)] V fun e w'=>e=.returned (.agg (CB q))∧Below V.heap.size V w'):=zh (by rw[hCB];exact HBL.out)
 obtain⟨KY,hKY⟩:∃KY,KY=b16 key:=⟨_,rfl⟩
 have HEN3:Hid (∀q V,Calls Tryz.prog 69 #[.agg KY,.agg (CB q)] V fun e w'=>e=.returned (.agg (b16 (EK q)))∧Below V.heap.size V w'):=zh (by rw[hKY,hCB];exact HEN2.out)
 have HSK:Hid ((Tryz.prog.info? 23).map (·.size)=some KY.size):=zh (by rw[hKY];exact size16 _)
 obtain⟨LF,hLF⟩:∃LF:Nat→List Value,LF=fun k=>cryL key ct b d z k:=⟨_,rfl⟩
 have HLF0:Hid (LF 0=[]):=zh (by rw[hLF];exact HL0.out)
 obtain⟨CF,hCF⟩:∃CF:Nat→Nat,CF=fun j=>cryF key ct b d z j:=⟨_,rfl⟩
 have HLFS:Hid (∀k,LF (k+1)=LF k++[.int .u8 ((CF k:Nat):Int)]):=zh (by rw[hLF,hCF];exact HLS.out)
 have HXR3:Hid (∀i x y,x < 256→z i=x→y < 256→EK (i / 16) (i % 16)=y→bits .xor .u8 (x:Int) (y:Int)=((CF i:Nat):Int)):=zh (by rw[hCF];exact HXR2.out)
 have HLFN:Hid (LF n=cryL key ct b d z n):=zh (by rw[hLF])
 rw[←hKY]
 obtain⟨Q,hQ⟩:∃Q:Ending→World→Prop,Q=RCry key ct b d n z w:=⟨_,rfl⟩
 have HQ:Hid (∀w' A c,SL w' 5 1 A n c (LF n)→Fresh w.heap.size A→Below w.heap.size w w'→Q (.returned (.slice A n c)) w'):=zh (by rw[hQ,HLFN.out];exact fun w' A c h1 h2 h3=>⟨A,c,rfl,h1,h2,h3⟩)
 rw[←hQ]
 clear hk hc hb hd hr hz HBL HEN HYB HXR HL0 HLS hEK HEN2 HXR2 hCB hKY hLF hCF HLFN hQ
 go_enter Tryz.func37,Tryz.ntmps37
 go_upto_region 3 with (fail)
 obtain⟨kb,hkb⟩:∃kb,kb=w.heap.size:=⟨_,rfl⟩
 obtain⟨zb,hzb⟩:∃zb,zb=kb+1:=⟨_,rfl⟩
 refine wp_let (fun V=>Blk V kb 23 KY∧(∃Y,Blk V zb 23 (b16 Y)∧B16 Y)∧Below w.heap.size w V∧zb < V.heap.size) ⟨by rw[hkb];exact(Blk.new _ _ _).alloc _,⟨fun _=>0,by rw[hzb,hkb];exact blk_atA _ _ _ _ (by simp),fun _ _=>by show 0 < 256;decide⟩,((Below.refl _ w).alloc (Nat.le_refl _) _).alloc (by simp) _,by rw[hzb,hkb];simp⟩ ?_
 rintro W1 ⟨b1,b2,b3,b4⟩
 have BB:=zh (And.intro b1 (And.intro b2 (And.intro b3 b4)))
 have HSZ:=zh (show w.heap.size≤kb∧kb < zb by omega)
 rw[←hkb,←hzb]
 clear b1 b2 b3 b4 hkb hzb
 go_wp2
 go_loopw [11,13] (fun v11 v13 wr=>∃(i:Nat) (A':Option Addr) (c':Nat) (Y:Nat→Nat),i≤n∧v13=.int .i64 i∧v11=.slice A' i c'∧SL wr 5 1 A' i c' (LF i)∧(∀a,A'=some a→zb < a.block)∧Blk wr kb 23 KY∧Blk wr zb 23 (b16 Y)∧B16 Y∧(i % 16 ≠ 0→Y=EK (i / 16))∧Below w.heap.size w wr) (fun _ v13 _=>n-(intOf v13).toNat)
 case atStart=>
  obtain⟨b1,⟨Y,b2,b3⟩,b4,b5⟩:=BB.out
  exact⟨0,none,0,Y,by omega,rfl,rfl,by rw[HLF0.out];exact SL.nil _ _ _,fun a h=>(by cases h),b1,b2,b3,fun h=>absurd rfl h,b4⟩
 case round=>
  clear BB
  obtain⟨i,A',c',Y,hi,rfl,rfl,hS,hA,hK,hY,hYB,hYE,hBW⟩:=hrel
  have HS:=zh hS
  have HA:=zh hA
  have HK:=zh hK
  have HY:=zh hY
  have HYY:=zh hYB
  have HYE:=zh hYE
  have HBW:=zh hBW
  clear hS hA hK hY hYB hYE hBW
  have k0:(0:Int)≤(i:Int):=by omega
  by_cases hlt:i < n
  rotate_left
  ·have e1:i=n:=by omega
   have k1:¬(i:Int) < (n:Int):=by omega
   have HE1:=zh e1
   clear e1
   go_wp2
   have e2:=HE1.out
   subst e2
   exact HQ.out _ _ _ HS.out (fun a ha=>by have:=HA.out a ha;have:=HSZ.out;omega) HBW.out
  have k1:(i:Int) < (n:Int):=by omega
  have hq1:(i:Int) / 16=((i / 16:Nat):Int):=by omega
  have hq2:(i:Int) % 16=((i % 16:Nat):Int):=by omega
  obtain⟨q,hq⟩:∃q,q=i / 16:=⟨_,rfl⟩
  obtain⟨m,hm⟩:∃m,m=i % 16:=⟨_,rfl⟩
  rw[←hq]at hq1
  rw[←hm]at hq2
  have HQM:=zh (And.intro hq hm)
  have hm16:m < 16:=by omega
  have hm17:(m:Int) < 16:=by omega
  have hq3:q < 18446744073709551616:=by omega
  clear hq hm
  have h16:=HZ8.out i hlt
  obtain⟨lb,lo,hAA,hlb,hlc⟩:=HR.out (by omega)
  subst hAA
  have HLB:=zh hlb
  have HLC:=zh hlc
  obtain⟨x,hx⟩:∃x,x=z i:=⟨_,rfl⟩
  have HX:=zh hx
  rw[←hx]at h16
  have HCI:Hid (w.cell? ⟨lb,lo+i,none⟩=some (.int .u8 (x:Int))):=zh (by rw[hx];exact hlc i hlt)
  clear hlb hlc hx
  have hq4:(0:Int)≤(q:Int):=by omega
  have ht:(i:Int).tmod 16=(m:Int):=by rw[Int.tmod_eq_emod_of_nonneg (by omega)];omega
  have hq5:(q:Int) < 18446744073709551616:=by omega
  have wq1:IntKind.i64.wrap (q:Int)=(q:Int):=by simp[IntKind.wrap_i64];omega
  have wq2:IntKind.u64.wrap (q:Int)=(q:Int):=by simp[IntKind.wrap_u64];omega
  by_cases hm0:m=0
  ·have t0:((m:Int) == 0)=true:=by rw[hm0];rfl
   have HM0:=zh hm0
   clear hm0
   have HUK:=zh Tryz.underlying23
   have HSKL:Hid ((Tryz.prog.info? 23).map (·.size)=some KY.toList.length):=zh (by rw[Array.length_toList];exact HSK.out)
   have HKR:=zh (fun(W':World) (hb:KeepF (fun k=>k=zb) wr W')=>Blk.range (hb.blk HK.out (by have:=HSZ.out;omega)) KY.toList (by rw[Array.toArray_toList]))
   have HEN4:Hid (∀V,Calls Tryz.prog 69 #[.agg KY.toList.toArray,.agg (CB q)] V fun e w'=>e=.returned (.agg (b16 (EK q)))∧Below V.heap.size V w'):=zh (by rw[Array.toArray_toList];exact fun V=>HEN3.out q V)
   go_upto_region 7 with (fail)
   obtain⟨w0,hw0⟩:∃w0,w0=wr.drew:=⟨_,rfl⟩
   refine wp_region_held_drew (S:=fun w'=>KeepF (fun k=>k=zb) wr w') (by kernel_rfl) ((KeepF.refl (F:=fun k=>k=zb) (w:=wr)).drew) (fun hHeld=>?_)
   rw[←hw0]
   rw[←hw0]at hHeld
   have hb0:Below wr.heap.size wr w0:=by rw[hw0];exact(Below.refl _ _).drew
   clear hw0
   refine' tkH (i:=0) (oi:=⟨some 23,_,_,_,_,_⟩) (v:=_) rfl (yieldsIf_load_mid (by rfl) _ _ rfl kb 0 rfl KY.toList _ (fun w h=>HKR.out w h) HUK.out rfl HSKL.out) (by assumption) ?_
   refine tkH (i:=1) (oi:=⟨some 24,_,_,_,_,_⟩) (v:=.int .u32 ct) rfl (Or.inl ⟨by rfl,fun W hW=>(by rfl)⟩) (by assumption) ?_
   refine tkH (i:=2) (oi:=⟨some 25,_,_,_,_,_⟩) (v:=.int .i64 b) rfl (Or.inl ⟨by rfl,fun W hW=>(by rfl)⟩) (by assumption) ?_
   refine tkH (i:=3) (oi:=⟨some 26,_,_,_,_,_⟩) (v:=.int .i64 d) rfl (Or.inl ⟨by rfl,fun W hW=>(by rfl)⟩) (by assumption) ?_
   refine tkH (i:=4) (oi:=⟨some 27,_,_,_,_,_⟩) (v:=.int .i64 i) rfl (Or.inl ⟨by rfl,fun W hW=>(by rfl)⟩) (by assumption) ?_
   refine tkH (i:=5) (oi:=⟨some 28,_,_,_,_,_⟩) (v:=.int .i64 q) rfl (Or.inl ⟨by rfl,fun W hW=>(by go_simp)⟩) (by assumption) ?_
   refine tkH (i:=6) (oi:=⟨some 29,_,_,_,_,_⟩) (v:=.int .u64 q) rfl (Or.inl ⟨by rfl,fun W hW=>(by go_simp)⟩) (by assumption) ?_
   refine wpAnyH_ready (rs:=[7]) (by kernel_rfl) (by simp) ?_
   refine AllReadyH.cons (o:=⟨some 30,_,_,_,_,_⟩) rfl (fun K hK=>?_) AllReadyH.nil
   rw[if_pos (by rfl)]
   go_simp
   refine(HBL2.out q w0 hq3).mono ?_
   rintro e u1 ⟨rfl,hB⟩
   dsimp only
   have hE1:KeepF (fun k=>k=zb) wr u1:=hHeld.trans (KeepF.of_below (F:=fun k=>k=zb) hB) (fun _ _ h=>h)
   have hb1:Below wr.heap.size wr u1:=hb0.trans (hB.mono hb0.size)
   refine hK.out _ _ hE1 (fun hHeld=>?_)
   clear hK K hB
   try simp only[Act.put,List.setIfInBounds_toArray,List.set_cons_zero,List.set_cons_succ]
   refine wpAnyH_ready (rs:=[8]) (by kernel_rfl) (by simp) ?_
   refine AllReadyH.cons (o:=⟨some 31,_,_,_,_,_⟩) rfl (fun K hK=>?_) AllReadyH.nil
   rw[if_pos (by rfl)]
   go_simp
   refine(HEN4.out u1).mono ?_
   rintro e u2 ⟨rfl,hB⟩
   dsimp only
   have hE2:KeepF (fun k=>k=zb) wr u2:=hHeld.trans (KeepF.of_below (F:=fun k=>k=zb) hB) (fun _ _ h=>h)
   have hb2:Below wr.heap.size wr u2:=hb1.trans (hB.mono hb1.size)
   have hY0:=zh (show Blk u2 zb 23 (b16 Y)from HY.out.below hb2 HY.out.lt)
   refine hK.out _ _ hE2 (fun hHeld=>?_)
   clear hK K hB
   try simp only[Act.put,List.setIfInBounds_toArray,List.set_cons_zero,List.set_cons_succ]
   refine wpAnyH_ready (rs:=[9]) (by kernel_rfl) (by simp) ?_
   refine AllReadyH.cons (o:=⟨none,_,_,_,_,_⟩) rfl (fun K hK=>?_) AllReadyH.nil
   rw[if_pos (by rfl)]
   refine wp_store_row _ _ _ rfl zb (b16 (EK q)) rfl rfl 23 _ hY0.out (size16 _) (by rw[b16_size,b16_size]) (b16_one _) ?_
   have hE3:KeepF (fun k=>k=zb) wr (u2.setRow zb (b16 (EK q))):=hE2.setRow rfl _
   refine hK.out _ _ hE3 (fun hHeld=>?_)
   clear hK K
   try simp only[Act.put]
   refine wpAnyH_done (by kernel_rfl) ?_ _
   refine then_let (fun V=>SL V 5 1 A' i c' (LF i)∧Blk V kb 23 KY∧Blk V zb 23 (b16 (EK q))∧Below w.heap.size w V) ⟨HS.out.keepF hE3 (fun a ha e=>by have:=HA.out a ha;omega),hE3.blk HK.out (by have:=HSZ.out;omega),setRow_heap u2 zb (b16 Y) _ 23 (0,0) hY0.out,KeepF.below HBW.out hE3 (fun k hk=>by have:=HSZ.out;omega) HBW.out.size⟩ ?_
   rintro V ⟨b1,b2,b3,b4⟩
   have VS:=zh b1
   have VK:=zh b2
   have VY:=zh b3
   have VB:=zh b4
   clear b1 b2 b3 b4 hE1 hE2 hE3 hY0 hb0 hb1 hb2 hHeld
   obtain⟨y,hy⟩:∃y,y=EK q m:=⟨_,rfl⟩
   have hy8:y < 256:=by rw[hy];exact HYB2.out q m hm16
   have hxor:=HXR3.out i x y h16 HX.out.symm hy8 (by rw[hy,HQM.out.1,HQM.out.2])
   have HYC:=zh (show ∀W',(∃e:KeepF (fun k=>zb < k) V W',True)→W'.cell? ⟨lb,lo+i,none⟩=some (.int .u8 (x:Int))∧W'.cell? ⟨zb,m,none⟩=some (.int .u8 (y:Int))from fun W' ⟨hW,_⟩=>⟨(hW.cell (p:=⟨lb,lo+i,none⟩) (Nat.lt_of_lt_of_le HLB.out VB.out.size) (by have:=HLB.out;have:=HSZ.out;show ¬zb < lb;omega)).trans ((VB.out.cell (p:=⟨lb,lo+i,none⟩) HLB.out).trans HCI.out),by rw[hy];exact(hW.cell (p:=⟨zb,m,none⟩) VY.out.lt (by show ¬zb < zb;omega)).trans ((VY.out.cell m).trans (b16_at _ hm16))⟩)
   have HSL:=zh (show ∀W',KeepF (fun k=>zb < k) V W'→W'=V.drew.alloc (.cells #[.int .u8 ((CF i:Nat):Int)] 5)→SL W' 5 1 A' i c' (LF i)from fun W' _ e=>by rw[e];exact VS.out.next (((Below.refl _ V).drew).alloc (Nat.le_refl _) _))
   clear hy
   go_upto_region 8 with (fail)
   refine wp_region_held_drew (S:=fun w'=>KeepF (fun k=>zb < k) V w') (by kernel_rfl) ((KeepF.refl (F:=fun k=>zb < k) (w:=V)).drew) (fun hHeld=>?_)
   refine tkH (i:=0) (oi:=⟨some 32,_,_,_,_,_⟩) (v:=.slice A' i c') rfl (Or.inl ⟨by rfl,fun W hW=>(by rfl)⟩) (by assumption) ?_
   refine tkH (i:=1) (oi:=⟨some 33,_,_,_,_,_⟩) (v:=.slice (some ⟨lb,lo,none⟩) n c) rfl (Or.inl ⟨by rfl,fun W hW=>(by rfl)⟩) (by assumption) ?_
   refine tkH (i:=2) (oi:=⟨some 34,_,_,_,_,_⟩) (v:=.int .i64 i) rfl (Or.inl ⟨by rfl,fun W hW=>(by rfl)⟩) (by assumption) ?_
   refine tkH (i:=3) (oi:=⟨some 35,_,_,_,_,_⟩) (v:=.pointer (some ⟨lb,lo+i,none⟩)) rfl (Or.inl ⟨by rfl,fun W hW=>(by go_simp)⟩) (by assumption) ?_
   refine tkH (i:=4) (oi:=⟨some 36,_,_,_,_,_⟩) (v:=.int .u8 x) rfl (Or.inl ⟨by rfl,fun W hW=>(by have s0:=(HYC.out W ⟨hW,trivial⟩).1;go_simp)⟩) (by assumption) ?_
   refine tkH (i:=5) (oi:=⟨some 37,_,_,_,_,_⟩) (v:=.int .i64 i) rfl (Or.inl ⟨by rfl,fun W hW=>(by rfl)⟩) (by assumption) ?_
   refine tkH (i:=6) (oi:=⟨some 38,_,_,_,_,_⟩) (v:=.int .i64 m) rfl (Or.inl ⟨by rfl,fun W hW=>(by go_simp)⟩) (by assumption) ?_
   refine tkH (i:=7) (oi:=⟨some 39,_,_,_,_,_⟩) (v:=.pointer (some ⟨zb,m,none⟩)) rfl (Or.inl ⟨by rfl,fun W hW=>(by go_simp)⟩) (by assumption) ?_
   refine tkH (i:=8) (oi:=⟨some 40,_,_,_,_,_⟩) (v:=.int .u8 y) rfl (Or.inl ⟨by rfl,fun W hW=>(by have s0:=(HYC.out W ⟨hW,trivial⟩).2;go_simp)⟩) (by assumption) ?_
   refine tkH (i:=9) (oi:=⟨some 41,_,_,_,_,_⟩) (v:=.int .u8 (CF i:Nat)) rfl (Or.inl ⟨by rfl,fun W hW=>(by go_simp)⟩) (by assumption) ?_
   refine wpAnyH_ready (rs:=[10]) (by kernel_rfl) (by simp) ?_
   refine AllReadyH.cons (o:=⟨some 42,_,_,_,_,_⟩) rfl (fun K hK=>?_) AllReadyH.nil
   rw[if_pos (by rfl)]
   go_simp
   have hE:KeepF (fun k=>zb < k) V (V.drew.alloc (.cells #[.int .u8 ((CF i:Nat):Int)] 5)):=(KeepF.refl (F:=fun k=>zb < k) (w:=V)).drew.alloc _
   refine hK.out _ _ hE (fun hHeld=>?_)
   clear hK K
   try simp only[Act.put,List.setIfInBounds_toArray,List.set_cons_zero,List.set_cons_succ]
   refine wpAnyH_ready (rs:=[11]) (by kernel_rfl) (by simp) ?_
   refine AllReadyH.cons (o:=⟨some 43,_,_,_,_,_⟩) rfl (fun K hK=>?_) AllReadyH.nil
   rw[if_pos (by rfl)]
   have HSLV:=HSL.out _ hE rfl
   refine wp_sl_append _ _ 35 35 rfl _ 5 i0 (.int .u8 0) 1 1 Tryz.underlying35 hi0 hz0 hz1 hz2 rfl A' i c' (LF i) rfl HSLV (.slice (some ⟨V.heap.size,0,none⟩) 1 1) rfl 1 [.int .u8 ((CF i:Nat):Int)]
    (Src.ofSlice _ Tryz.underlying35 ⟨V.heap.size,0,none⟩ 1 1 [.int .u8 ((CF i:Nat):Int)] (by rfl) (fun j u hu=>by
     cases j with
     | zero=>rw[Addr.add_lit];simp at hu;subst hu;exact(blk_atA V.drew 5 #[.int .u8 ((CF i:Nat):Int)] V.heap.size rfl).cell 0
     | succ j=>simp at hu) (by intro u hu;simp at hu;subst hu;rfl)) (by omega) (by unfold maxLen;omega) (by omega) (fun A2 c2 w6 hs6 hk6 ho6=>?_)
   have hE6:KeepF (fun k=>zb < k) V w6:=hE.trans hk6 (fun k _ ⟨a,ha,e⟩=>by rw[e];exact HA.out a ha)
   have HS6:=zh (show SL w6 5 1 A2 (i+1) c2 (LF (i+1)) by rw[HLFS.out];exact hs6)
   have HA6:=zh (show ∀a,A2=some a→zb < a.block from fun a ha=>by
    rcases ho6 a ha with ⟨a',h1,h2⟩ | h2
    ·rw[h2];exact HA.out a' h1
    ·have h3:V.heap.size≤a.block:=Nat.le_trans (by simp) h2
     have:=VY.out.lt;omega)
   refine hK.out _ _ hE6 (fun hHeld=>?_)
   clear hK K hs6 hk6 ho6
   try simp only[Act.put,List.setIfInBounds_toArray,List.set_cons_zero,List.set_cons_succ]
   refine wpAnyH_ready (rs:=[12]) (by kernel_rfl) (by simp) ?_
   refine AllReadyH.cons (o:=⟨some 11,_,_,_,_,_⟩) rfl (fun K hK=>?_) AllReadyH.nil
   rw[if_pos (by rfl)]
   go_simp
   refine hK.out _ _ hE6 (fun hHeld=>?_)
   clear hK K
   try simp only[Act.put,List.setIfInBounds_toArray,List.set_cons_zero,List.set_cons_succ]
   refine wpAnyH_done (by kernel_rfl) ?_ _
   have HE6:=zh hE6
   clear hHeld hE hE6 HSLV
   go_wp2
   go_roundw
   case rel=>
    refine⟨i+1,A2,c2,EK q,by omega,by go_num,rfl,HS6.out,HA6.out,HE6.out.blk VK.out (by have:=HSZ.out;omega),HE6.out.blk VY.out (by omega),HYB2.out q,fun h=>?_,KeepF.below VB.out HE6.out (fun k hk=>by have:=HSZ.out;omega) VB.out.size⟩
    have:=HQM.out
    rw[show(i+1) / 16=q by omega]
   case measure=>simp[intOf];omega
  ·have t0:((m:Int) == 0)=false:=by rw[beq_eq_false_iff_ne];omega
   have hYE2:=HYE.out (by rw[←HQM.out.2];exact hm0)
   rw[←HQM.out.1]at hYE2
   refine wp_let (fun V=>SL V 5 1 A' i c' (LF i)∧Blk V kb 23 KY∧Blk V zb 23 (b16 (EK q))∧Below w.heap.size w V) ⟨HS.out,HK.out,by rw[←hYE2];exact HY.out,HBW.out⟩ ?_
   rintro V ⟨b1,b2,b3,b4⟩
   have VS:=zh b1
   have VK:=zh b2
   have VY:=zh b3
   have VB:=zh b4
   clear b1 b2 b3 b4 hYE2 hm0
   obtain⟨y,hy⟩:∃y,y=EK q m:=⟨_,rfl⟩
   have hy8:y < 256:=by rw[hy];exact HYB2.out q m hm16
   have hxor:=HXR3.out i x y h16 HX.out.symm hy8 (by rw[hy,HQM.out.1,HQM.out.2])
   have HYC:=zh (show ∀W',(∃e:KeepF (fun k=>zb < k) V W',True)→W'.cell? ⟨lb,lo+i,none⟩=some (.int .u8 (x:Int))∧W'.cell? ⟨zb,m,none⟩=some (.int .u8 (y:Int))from fun W' ⟨hW,_⟩=>⟨(hW.cell (p:=⟨lb,lo+i,none⟩) (Nat.lt_of_lt_of_le HLB.out VB.out.size) (by have:=HLB.out;have:=HSZ.out;show ¬zb < lb;omega)).trans ((VB.out.cell (p:=⟨lb,lo+i,none⟩) HLB.out).trans HCI.out),by rw[hy];exact(hW.cell (p:=⟨zb,m,none⟩) VY.out.lt (by show ¬zb < zb;omega)).trans ((VY.out.cell m).trans (b16_at _ hm16))⟩)
   have HSL:=zh (show ∀W',KeepF (fun k=>zb < k) V W'→W'=V.drew.alloc (.cells #[.int .u8 ((CF i:Nat):Int)] 5)→SL W' 5 1 A' i c' (LF i)from fun W' _ e=>by rw[e];exact VS.out.next (((Below.refl _ V).drew).alloc (Nat.le_refl _) _))
   clear hy
   go_upto_region 8 with (fail)
   refine wp_region_held_drew (S:=fun w'=>KeepF (fun k=>zb < k) V w') (by kernel_rfl) ((KeepF.refl (F:=fun k=>zb < k) (w:=V)).drew) (fun hHeld=>?_)
   refine tkH (i:=0) (oi:=⟨some 32,_,_,_,_,_⟩) (v:=.slice A' i c') rfl (Or.inl ⟨by rfl,fun W hW=>(by rfl)⟩) (by assumption) ?_
   refine tkH (i:=1) (oi:=⟨some 33,_,_,_,_,_⟩) (v:=.slice (some ⟨lb,lo,none⟩) n c) rfl (Or.inl ⟨by rfl,fun W hW=>(by rfl)⟩) (by assumption) ?_
   refine tkH (i:=2) (oi:=⟨some 34,_,_,_,_,_⟩) (v:=.int .i64 i) rfl (Or.inl ⟨by rfl,fun W hW=>(by rfl)⟩) (by assumption) ?_
   refine tkH (i:=3) (oi:=⟨some 35,_,_,_,_,_⟩) (v:=.pointer (some ⟨lb,lo+i,none⟩)) rfl (Or.inl ⟨by rfl,fun W hW=>(by go_simp)⟩) (by assumption) ?_
   refine tkH (i:=4) (oi:=⟨some 36,_,_,_,_,_⟩) (v:=.int .u8 x) rfl (Or.inl ⟨by rfl,fun W hW=>(by have s0:=(HYC.out W ⟨hW,trivial⟩).1;go_simp)⟩) (by assumption) ?_
   refine tkH (i:=5) (oi:=⟨some 37,_,_,_,_,_⟩) (v:=.int .i64 i) rfl (Or.inl ⟨by rfl,fun W hW=>(by rfl)⟩) (by assumption) ?_
   refine tkH (i:=6) (oi:=⟨some 38,_,_,_,_,_⟩) (v:=.int .i64 m) rfl (Or.inl ⟨by rfl,fun W hW=>(by go_simp)⟩) (by assumption) ?_
   refine tkH (i:=7) (oi:=⟨some 39,_,_,_,_,_⟩) (v:=.pointer (some ⟨zb,m,none⟩)) rfl (Or.inl ⟨by rfl,fun W hW=>(by go_simp)⟩) (by assumption) ?_
   refine tkH (i:=8) (oi:=⟨some 40,_,_,_,_,_⟩) (v:=.int .u8 y) rfl (Or.inl ⟨by rfl,fun W hW=>(by have s0:=(HYC.out W ⟨hW,trivial⟩).2;go_simp)⟩) (by assumption) ?_
   refine tkH (i:=9) (oi:=⟨some 41,_,_,_,_,_⟩) (v:=.int .u8 (CF i:Nat)) rfl (Or.inl ⟨by rfl,fun W hW=>(by go_simp)⟩) (by assumption) ?_
   refine wpAnyH_ready (rs:=[10]) (by kernel_rfl) (by simp) ?_
   refine AllReadyH.cons (o:=⟨some 42,_,_,_,_,_⟩) rfl (fun K hK=>?_) AllReadyH.nil
   rw[if_pos (by rfl)]
   go_simp
   have hE:KeepF (fun k=>zb < k) V (V.drew.alloc (.cells #[.int .u8 ((CF i:Nat):Int)] 5)):=(KeepF.refl (F:=fun k=>zb < k) (w:=V)).drew.alloc _
   refine hK.out _ _ hE (fun hHeld=>?_)
   clear hK K
   try simp only[Act.put,List.setIfInBounds_toArray,List.set_cons_zero,List.set_cons_succ]
   refine wpAnyH_ready (rs:=[11]) (by kernel_rfl) (by simp) ?_
   refine AllReadyH.cons (o:=⟨some 43,_,_,_,_,_⟩) rfl (fun K hK=>?_) AllReadyH.nil
   rw[if_pos (by rfl)]
   have HSLV:=HSL.out _ hE rfl
   refine wp_sl_append _ _ 35 35 rfl _ 5 i0 (.int .u8 0) 1 1 Tryz.underlying35 hi0 hz0 hz1 hz2 rfl A' i c' (LF i) rfl HSLV (.slice (some ⟨V.heap.size,0,none⟩) 1 1) rfl 1 [.int .u8 ((CF i:Nat):Int)]
    (Src.ofSlice _ Tryz.underlying35 ⟨V.heap.size,0,none⟩ 1 1 [.int .u8 ((CF i:Nat):Int)] (by rfl) (fun j u hu=>by
     cases j with
     | zero=>rw[Addr.add_lit];simp at hu;subst hu;exact(blk_atA V.drew 5 #[.int .u8 ((CF i:Nat):Int)] V.heap.size rfl).cell 0
     | succ j=>simp at hu) (by intro u hu;simp at hu;subst hu;rfl)) (by omega) (by unfold maxLen;omega) (by omega) (fun A2 c2 w6 hs6 hk6 ho6=>?_)
   have hE6:KeepF (fun k=>zb < k) V w6:=hE.trans hk6 (fun k _ ⟨a,ha,e⟩=>by rw[e];exact HA.out a ha)
   have HS6:=zh (show SL w6 5 1 A2 (i+1) c2 (LF (i+1)) by rw[HLFS.out];exact hs6)
   have HA6:=zh (show ∀a,A2=some a→zb < a.block from fun a ha=>by
    rcases ho6 a ha with ⟨a',h1,h2⟩ | h2
    ·rw[h2];exact HA.out a' h1
    ·have h3:V.heap.size≤a.block:=Nat.le_trans (by simp) h2
     have:=VY.out.lt;omega)
   refine hK.out _ _ hE6 (fun hHeld=>?_)
   clear hK K hs6 hk6 ho6
   try simp only[Act.put,List.setIfInBounds_toArray,List.set_cons_zero,List.set_cons_succ]
   refine wpAnyH_ready (rs:=[12]) (by kernel_rfl) (by simp) ?_
   refine AllReadyH.cons (o:=⟨some 11,_,_,_,_,_⟩) rfl (fun K hK=>?_) AllReadyH.nil
   rw[if_pos (by rfl)]
   go_simp
   refine hK.out _ _ hE6 (fun hHeld=>?_)
   clear hK K
   try simp only[Act.put,List.setIfInBounds_toArray,List.set_cons_zero,List.set_cons_succ]
   refine wpAnyH_done (by kernel_rfl) ?_ _
   have HE6:=zh hE6
   clear hHeld hE hE6 HSLV
   go_wp2
   go_roundw
   case rel=>
    refine⟨i+1,A2,c2,EK q,by omega,by go_num,rfl,HS6.out,HA6.out,HE6.out.blk VK.out (by have:=HSZ.out;omega),HE6.out.blk VY.out (by omega),HYB2.out q,fun h=>?_,KeepF.below VB.out HE6.out (fun k hk=>by have:=HSZ.out;omega) VB.out.size⟩
    have:=HQM.out
    rw[show(i+1) / 16=q by omega]
   case measure=>simp[intOf];omega
end Go.Proofs.YtnadmdadcpemnaaGreat
