import Derived.Test.YtnadmdadcpemnaaGreatMRMy
import Derived.Test.YtnadmdadcpemnaaGreatRPy
import Derived.Test.YtnadmdadcpemnaaGreatMDVAy
namespace Go.Proofs.YtnadmdadcpemnaaGreat
open Go.RowKit
attribute [local go_sem ↓] Go.wp_at_zero Go.wp_at_succ
set_option linter.unusedVariables false
private theorem zh {p:Prop} (h:p):Go.RowKit.Hid p:=h
private theorem tkH {P:Program} {ops:Array Oper} {Q:Exit→Act→World→Prop} {md:Region.Mode} {S:World→Prop} {i:Nat} {oi:Oper} {v:Value} {fuel:Nat} {listed l':Array Bool} {a a':Act} {w:World} (hi:ops[i]? = some oi) (hy:YieldsIf P ops S oi v a) (hS:S w)
  (h:wpAnyH P md ops Q S fuel l' a' w) (hl:listed.setIfInBounds i true=l':=by(try simp only[List.setIfInBounds_toArray,List.set_cons_zero,List.set_cons_succ]);rfl) (ha:a.put oi.dst v=a':=by(try simp only[Act.put,List.setIfInBounds_toArray,List.set_cons_zero,List.set_cons_succ]);rfl) (hs:Region.noSelect ops=true:=by kernel_rfl) (hf:Region.free md ops listed i=true:=by kernel_rfl) (hr:(Region.ready md ops listed).contains i=true:=by kernel_rfl)
  (hQ:∀c a w,Q (.panic c) (a.put oi.dst v) w→Q (.panic c) a w:=by exact fun _ _ _ h=>h):wpAnyH P md ops Q S (fuel+1) listed a w:=by subst hl;subst ha;exact wpAnyH_take hi hs hf hr hQ hy hS h
def fnL (f:Nat→Nat) (n:Nat):List Value:=(List.range n).map fun j=>.int .u8 ((f j:Nat):Int)
theorem fnL_len (f:Nat→Nat) (n:Nat):(fnL f n).length=n:=by simp[fnL]
theorem fnL_at (f:Nat→Nat) {n j:Nat} (hj:j < n):(fnL f n)[j]? = some (.int .u8 ((f j:Nat):Int)):=by
 unfold fnL
 rw[List.getElem?_map,List.getElem?_range hj]
 rfl
theorem fnL_one {f:Nat→Nat} {n:Nat} {u:Value} (h:u∈fnL f n):u.oneCell'=true:=by
 obtain⟨j,_,rfl⟩:=List.mem_map.1 h
 rfl
theorem fnL_cat (f z:Nat→Nat) (m n:Nat):fnL f m++fnL z n=fnL (catF f m z) (m+n):=by
 apply List.ext_getElem?
 intro j
 by_cases hj:j < m
 ·rw[List.getElem?_append_left (by rw[fnL_len];exact hj),fnL_at f hj,fnL_at _ (by omega)]
  unfold catF
  rw[if_pos hj]
 ·rw[List.getElem?_append_right (by rw[fnL_len];omega),fnL_len]
  by_cases h2:j < m+n
  ·rw[fnL_at z (by omega),fnL_at _ h2]
   unfold catF
   rw[if_neg hj]
  ·rw[List.getElem?_eq_none (by rw[fnL_len];omega),List.getElem?_eq_none (by rw[fnL_len];omega)]
theorem src_row {V:World} {A:Option Addr} {n c:Nat} {z:Nat→Nat} (hn:0 < n) (h:Row V V.heap.size A n (fun j=>.int .u8 ((z j:Nat):Int))):Src Tryz.prog 1 35 (.slice A n c) n (fnL z n) V:=by
 obtain⟨b,o,rfl,hb,hc⟩:=h hn
 exact Src.ofSlice _ Tryz.underlying35 ⟨b,o,none⟩ n c _ (by rw[fnL_len,Nat.mul_one]) (fun j u hu=>by
  have hj:j < n:=by have:=(List.getElem?_eq_some_iff.1 hu).1;rwa [fnL_len]at this
  rw[Addr.add_lit,hc j hj,←hu,fnL_at z hj]) (fun u hu=>fnL_one hu)
theorem sl_rowF {V:World} {A:Option Addr} {n c:Nat} {f:Nat→Nat} (h:SL V 5 1 A n c (fnL f n)):Row V V.heap.size A n (fun j=>.int .u8 ((f j:Nat):Int)):=h.rowOf (fun j hj=>fnL_at f hj)
theorem code_four (s:Nat→Nat):((s 0*256+s 1)*256+s 2)*256+s 3=s 0*16777216+s 1*65536+s 2*256+s 3:=by omega
set_option maxRecDepth 100000 in
set_option maxHeartbeats 3200000 in
theorem rcode_ok (key:Nat→Nat) (ct b d:Nat) (hk:B16 key) (hc:ct < 4294967296) (hb:b < 32) (hd:d < 2) (A:Option Addr) (n c:Nat) (z:Nat→Nat) (hn1:1≤n) (hn9:n≤900000) (hz:∀j,j < n→z j < 256) (w:World) (hr:Row w w.heap.size A n (fun j=>.int .u8 ((z j:Nat):Int))) :
  Calls Tryz.prog 36 #[.agg (b16 key),.int .u32 ct,.int .i64 b,.int .i64 d,.slice A n c] w fun e w'=>e=.returned (.int .u32 ((codeF key ct b d z n:Nat):Int))∧Below w.heap.size w w':=by
 obtain⟨i0,hi0,hz0,hz1,hz2⟩:=info_parts Tryz.infoByte
 have HBL:Hid (∀V:World,Calls Tryz.prog 67 #[.int .u32 ct,.int .i64 b,.int .i64 d,.int .u64 0] V fun e w'=>e=.returned (.agg (b16 (ctrB ct b d 0)))∧Below V.heap.size V w'):=zh (fun V=>rblock_ok ct b d 0 hc hb hd (by omega) V)
 obtain⟨ff,hff⟩:∃ff,ff=halfB (pfx ct b d):=⟨_,rfl⟩
 have HFF:Hid (∀j,ff j < 256):=zh (fun j=>by rw[hff];exact halfB_lt _ _)
 obtain⟨s,hs⟩:∃s,s=macF key (catF ff 8 z) (8+n):=⟨_,rfl⟩
 have HZC:Hid (∀j,j < 8+n→catF ff 8 z j < 256):=zh (catF_lt (fun j _=>HFF.out j) hz)
 have HS16:Hid (B16 s):=zh (by rw[hs];exact macF_lt hk HZC.out)
 have HCO:Hid (codeF key ct b d z n=((s 0*256+s 1)*256+s 2)*256+s 3):=zh (by rw[code_four,hs,hff];rfl)
 have HSUM:=zh (fun A2 c2 V (h2:Row V V.heap.size A2 (8+n) (fun j=>.int .u8 ((catF ff 8 z j:Nat):Int)))=>rsum_ok key hk A2 (8+n) c2 (catF ff 8 z) (by omega) (by omega) HZC.out V h2)
 rw[←hs]at HSUM
 obtain⟨PB,hPB⟩:∃PB,PB=b16 (ctrB ct b d 0):=⟨_,rfl⟩
 rw[←hPB]at HBL
 have HPA:Hid (∀j,j < 8→PB[j]? = some (.int .u8 ((ff j:Nat):Int))):=zh (fun j hj=>by
  rw[hPB,b16_at _ (by omega),hff]
  unfold ctrB
  rw[if_pos hj])
 have HSP:Hid ((Tryz.prog.info? 23).map (·.size)=some PB.size):=zh (by rw[hPB];exact size16 _)
 have HOP:Hid (PB.all (·.oneCell')=true):=zh (by rw[hPB];exact b16_one _)
 have HZP:Hid ((#[.int .u8 0,.int .u8 0,.int .u8 0,.int .u8 0,.int .u8 0,.int .u8 0,.int .u8 0,.int .u8 0,.int .u8 0,.int .u8 0,.int .u8 0,.int .u8 0,.int .u8 0,.int .u8 0,.int .u8 0,.int .u8 0]:Array Value).size=PB.size):=zh (by rw[hPB,b16_size];rfl)
 have HPZ:Hid (PB.size=16):=zh (by rw[hPB,b16_size])
 obtain⟨KY,hKY⟩:∃KY,KY=b16 key:=⟨_,rfl⟩
 have HSK:Hid ((Tryz.prog.info? 23).map (·.size)=some KY.toList.length):=zh (by rw[Array.length_toList,hKY];exact size16 _)
 have HUK:=zh Tryz.underlying23
 rw[←hKY]at HSUM
 rw[←hKY,HCO.out]
 obtain⟨SB,hSB⟩:∃SB,SB=b16 s:=⟨_,rfl⟩
 rw[←hSB]at HSUM
 have HSA:Hid (∀j,j < 16→SB[j]? = some (.int .u8 ((s j:Nat):Int))):=zh (by rw[hSB];exact fun j hj=>b16_at _ hj)
 have HSS:Hid ((Tryz.prog.info? 23).map (·.size)=some SB.size):=zh (by rw[hSB];exact size16 _)
 have HSO:Hid (SB.all (·.oneCell')=true):=zh (by rw[hSB];exact b16_one _)
 have HSZ:Hid ((#[.int .u8 0,.int .u8 0,.int .u8 0,.int .u8 0,.int .u8 0,.int .u8 0,.int .u8 0,.int .u8 0,.int .u8 0,.int .u8 0,.int .u8 0,.int .u8 0,.int .u8 0,.int .u8 0,.int .u8 0,.int .u8 0]:Array Value).size=SB.size):=zh (by rw[hSB,b16_size];rfl)
 have HSUM2:Hid (∀A2 c2 V,Row V V.heap.size A2 (8+n) (fun j=>.int .u8 ((catF ff 8 z j:Nat):Int))→Calls Tryz.prog 68 #[.agg KY.toList.toArray,.slice A2 (8+n) c2] V fun e w'=>e=.returned (.agg SB)∧Below V.heap.size V w'):=zh (by rw[Array.toArray_toList];exact HSUM.out)
 have HR:=zh hr
 have HN:=zh (And.intro hn1 hn9)
 clear hk hc hb hd hz hr hs hff hPB hKY hSB hn1 hn9 HSUM
 go_enter Tryz.func36,Tryz.ntmps36
 go_upto_region 1 with (fail)
 obtain⟨kb,hkb⟩:∃kb,kb=w.heap.size:=⟨_,rfl⟩
 refine wp_let (fun V=>Blk V kb 23 KY∧Below w.heap.size w V) ⟨by rw[hkb];exact Blk.new _ _ _,(Below.refl _ _).alloc (Nat.le_refl _) _⟩ ?_
 rintro W1 ⟨b1,b2⟩
 have B1:=zh b1
 have B2:=zh b2
 rw[←hkb]
 clear b1 b2 hkb
 go_upto_region 2 with (first
  | (go_at_call 67;with_reducible refine(HBL.out _).mono ?_;rintro e w2 ⟨rfl,hB⟩;have E2:=zh hB;clear hB)
  | (refine wpList_store_row rfl _ _ _ rfl w2.heap.size PB rfl rfl 23 _ (Blk.new w2 _ _) HSP.out HZP.out HOP.out ?_))
 obtain⟨pb,hpb⟩:∃pb,pb=w2.heap.size:=⟨_,rfl⟩
 refine wp_let (fun V=>Blk V pb 23 PB∧Below W1.heap.size W1 V) ⟨by rw[hpb];exact Blk.setRow (Blk.new w2 _ _),belowRow (E2.out.alloc E2.out.size _) E2.out.size _⟩ ?_
 rintro W2 ⟨b1,b2⟩
 have C1:=zh b1
 have C2:=zh (B1.out.below b2 B1.out.lt)
 have C3:=zh (B2.out.trans (b2.mono B2.out.size))
 rw[←hpb]
 clear b1 b2 hpb B1 B2 E2
 have HKR:=zh (fun(W':World) (hb:Below W2.heap.size W2 W')=>Blk.range (C2.out.below hb C2.out.lt) KY.toList (by rw[Array.toArray_toList]))
 have HP8:=zh (fun(W':World) (hb:Below W2.heap.size W2 W')=>src_row (A:=some ⟨pb,0,none⟩) (c:=16) (n:=8) (z:=ff) (V:=W') (by decide) (fun _=>⟨pb,0,rfl,Nat.lt_of_lt_of_le C1.out.lt hb.size,fun j hj=>by rw[Nat.zero_add];exact((C1.out.below hb C1.out.lt).cell j).trans (HPA.out j hj)⟩))
 have HSRC:=zh (fun(W':World) (hb:Below W2.heap.size W2 W')=>src_row (c:=c) (by have:=HN.out;omega) ((HR.out.next C3.out).next hb))
 have HCAT:=zh (fnL_cat ff z 8 n)
 try simp only[Act.put]
 go_cut [12]from 17 to 22 (fun v12 wx=>∃g,v12=.pointer (some ⟨g,0,none⟩)∧Blk wx g 23 SB∧Below W2.heap.size W2 wx)
 case first=>
  obtain⟨w0,hw0⟩:∃w0,w0=W2.drew:=⟨_,rfl⟩
  refine wp_region_held_drew (S:=fun w'=>Below W2.heap.size W2 w') (by kernel_rfl) ((Below.refl _ W2).drew) (fun hHeld=>?_)
  rw[←hw0]
  rw[←hw0]at hHeld
  clear hw0
  refine' tkH (i:=0) (oi:=⟨some 17,_,_,_,_,_⟩) (v:=_) rfl (yieldsIf_load_mid (by rfl) _ _ rfl kb 0 rfl KY.toList _ (fun w h=>HKR.out w h) HUK.out rfl HSK.out) (by assumption) ?_
  refine tkH (i:=1) (oi:=⟨some 18,_,_,_,_,_⟩) (v:=.slice (some ⟨pb,0,none⟩) 8 16) rfl (Or.inl ⟨by rfl,fun W hW=>(by go_simp)⟩) (by assumption) ?_
  refine tkH (i:=3) (oi:=⟨some 20,_,_,_,_,_⟩) (v:=.slice A n c) rfl (Or.inl ⟨by rfl,fun W hW=>(by rfl)⟩) (by assumption) ?_
  refine wpAnyH_ready (rs:=[2,6]) (by kernel_rfl) (by simp) ?_
  refine AllReadyH.cons (o:=⟨some 19,_,_,_,_,_⟩) rfl (fun K hK=>?_) (AllReadyH.cons (o:=⟨some 12,_,_,_,_,_⟩) rfl (fun K hK=>?_) AllReadyH.nil)
  ·skip
   rw[if_pos (by rfl)]
   refine wp_sl_append _ _ 35 35 rfl w0 5 i0 (.int .u8 0) 1 1 Tryz.underlying35 hi0 hz0 hz1 hz2 rfl none 0 0 [] rfl (SL.nil _ _ _) (.slice (some ⟨pb,0,none⟩) 8 16) rfl 8 (fnL ff 8) (HP8.out _ hHeld) (by omega) (by unfold maxLen;omega) (by omega) (fun A1 c1 v1 hs1 hk1 ha1=>?_)
   rw[List.nil_append,Nat.zero_add]at hs1
   rw[Nat.zero_add]
   have hE:Below w0.heap.size w0 v1:=KeepF.below (Below.refl _ _) hk1 (fun k ⟨a,ha,_⟩=>by cases ha) (Nat.le_refl _)
   have hL:=hs1
   have hLA:∀a,A1=some a→W2.heap.size≤a.block:=fun a ha=>by
    rcases ha1 a ha with ⟨a',h1,_⟩ | h2
    ·cases h1
    ·have:=hHeld.size
     omega
   have hE2:=hHeld.trans (hE.mono hHeld.size)
   refine hK.out _ _ hE2 (fun hHeld=>?_)
   clear hK K hE hs1 hk1 ha1
   try simp only[Act.put,List.setIfInBounds_toArray,List.set_cons_zero,List.set_cons_succ]
   refine wpAnyH_ready (rs:=[4,6]) (by kernel_rfl) (by simp) ?_
   refine AllReadyH.cons (o:=⟨some 21,_,_,_,_,_⟩) rfl (fun K hK=>?_) (AllReadyH.cons (o:=⟨some 12,_,_,_,_,_⟩) rfl (fun K hK=>?_) AllReadyH.nil)
   ·skip
    rw[if_pos (by rfl)]
    refine wp_sl_append _ _ 35 35 rfl v1 5 i0 (.int .u8 0) 1 1 Tryz.underlying35 hi0 hz0 hz1 hz2 rfl A1 8 c1 (fnL ff 8) rfl hL (.slice A n c) rfl n (fnL z n) (HSRC.out _ hHeld) (by have:=HN.out;omega) (by have:=HN.out;unfold maxLen;omega) (by have:=HN.out;omega) (fun A2 c2 v2 hs1 hk1 ha1=>?_)
    rw[HCAT.out]at hs1
    have hL2:=hs1
    have hE2:Below W2.heap.size W2 v2:=KeepF.below hHeld hk1 (fun k ⟨a,ha,e⟩=>by have:=hLA a ha;omega) hHeld.size
    have hL:=hL2
    refine hK.out _ _ hE2 (fun hHeld=>?_)
    clear hK K hs1 hk1 ha1 hL2 hLA
    try simp only[Act.put,List.setIfInBounds_toArray,List.set_cons_zero,List.set_cons_succ]
    refine wpAnyH_ready (rs:=[5,6]) (by kernel_rfl) (by simp) ?_
    refine AllReadyH.cons (o:=⟨some 22,_,_,_,_,_⟩) rfl (fun K hK=>?_) (AllReadyH.cons (o:=⟨some 12,_,_,_,_,_⟩) rfl (fun K hK=>?_) AllReadyH.nil)
    ·skip
     rw[if_pos (by rfl)]
     go_simp
     refine(HSUM2.out A2 c2 _ (sl_rowF hL)).mono ?_
     rintro e v3 ⟨rfl,hB⟩
     dsimp only
     have hE2:=hHeld.trans (hB.mono hHeld.size)
     refine hK.out _ _ hE2 (fun hHeld=>?_)
     clear hK K hB hL
     try simp only[Act.put,List.setIfInBounds_toArray,List.set_cons_zero,List.set_cons_succ]
     refine wpAnyH_ready (rs:=[6]) (by kernel_rfl) (by simp) ?_
     refine AllReadyH.cons (o:=⟨some 12,_,_,_,_,_⟩) rfl (fun K hK=>?_) AllReadyH.nil
     rw[if_pos (by rfl)]
     go_simp
     obtain⟨v4,hv⟩:∃X,X=v3.alloc (.cells #[.int .u8 0,.int .u8 0,.int .u8 0,.int .u8 0,.int .u8 0,.int .u8 0,.int .u8 0,.int .u8 0,.int .u8 0,.int .u8 0,.int .u8 0,.int .u8 0,.int .u8 0,.int .u8 0,.int .u8 0,.int .u8 0] 23):=⟨_,rfl⟩
     obtain⟨gb,hgbe⟩:∃gb,gb=v3.heap.size:=⟨_,rfl⟩
     have hGB:Blk v4 gb 23 #[.int .u8 0,.int .u8 0,.int .u8 0,.int .u8 0,.int .u8 0,.int .u8 0,.int .u8 0,.int .u8 0,.int .u8 0,.int .u8 0,.int .u8 0,.int .u8 0,.int .u8 0,.int .u8 0,.int .u8 0,.int .u8 0]:=by rw[hv,hgbe];exact Blk.new _ _ _
     have hgb:W2.heap.size≤gb:=by rw[hgbe];exact hHeld.size
     have hE:Below v3.heap.size v3 v4:=by rw[hv];exact(Below.refl _ _).alloc (Nat.le_refl _) _
     rw[←hv,←hgbe]
     have hE2:=hHeld.trans (hE.mono hHeld.size)
     refine hK.out _ _ hE2 (fun hHeld=>?_)
     clear hK K hE hv hgbe
     try simp only[Act.put,List.setIfInBounds_toArray,List.set_cons_zero,List.set_cons_succ]
     refine wpAnyH_ready (rs:=[7]) (by kernel_rfl) (by simp) ?_
     refine AllReadyH.cons (o:=⟨none,_,_,_,_,_⟩) rfl (fun K hK=>?_) AllReadyH.nil
     rw[if_pos (by rfl)]
     refine wp_store_row _ _ _ rfl gb SB rfl rfl 23 #[.int .u8 0,.int .u8 0,.int .u8 0,.int .u8 0,.int .u8 0,.int .u8 0,.int .u8 0,.int .u8 0,.int .u8 0,.int .u8 0,.int .u8 0,.int .u8 0,.int .u8 0,.int .u8 0,.int .u8 0,.int .u8 0] hGB HSS.out HSZ.out HSO.out ?_
     have hE9:=belowRow hHeld hgb SB
     refine hK.out _ _ hE9 (fun hHeld=>?_)
     clear hK K
     try simp only[Act.put]
     refine wpAnyH_done (by kernel_rfl) ?_ _
     go_wp2
     go_meet
     case rel=>exact⟨gb,rfl,Blk.setRow hGB,hE9⟩
    ·skip
     rw[if_pos (by rfl)]
     go_simp
     obtain⟨v5,hv⟩:∃X,X=v2.alloc (.cells #[.int .u8 0,.int .u8 0,.int .u8 0,.int .u8 0,.int .u8 0,.int .u8 0,.int .u8 0,.int .u8 0,.int .u8 0,.int .u8 0,.int .u8 0,.int .u8 0,.int .u8 0,.int .u8 0,.int .u8 0,.int .u8 0] 23):=⟨_,rfl⟩
     obtain⟨gb,hgbe⟩:∃gb,gb=v2.heap.size:=⟨_,rfl⟩
     have hGB:Blk v5 gb 23 #[.int .u8 0,.int .u8 0,.int .u8 0,.int .u8 0,.int .u8 0,.int .u8 0,.int .u8 0,.int .u8 0,.int .u8 0,.int .u8 0,.int .u8 0,.int .u8 0,.int .u8 0,.int .u8 0,.int .u8 0,.int .u8 0]:=by rw[hv,hgbe];exact Blk.new _ _ _
     have hgb:W2.heap.size≤gb:=by rw[hgbe];exact hHeld.size
     have hE:Below v2.heap.size v2 v5:=by rw[hv];exact(Below.refl _ _).alloc (Nat.le_refl _) _
     rw[←hv,←hgbe]
     have hL:=hL.next hE
     have hE2:=hHeld.trans (hE.mono hHeld.size)
     refine hK.out _ _ hE2 (fun hHeld=>?_)
     clear hK K hE hv hgbe
     try simp only[Act.put,List.setIfInBounds_toArray,List.set_cons_zero,List.set_cons_succ]
     refine wpAnyH_ready (rs:=[5]) (by kernel_rfl) (by simp) ?_
     refine AllReadyH.cons (o:=⟨some 22,_,_,_,_,_⟩) rfl (fun K hK=>?_) AllReadyH.nil
     rw[if_pos (by rfl)]
     go_simp
     refine(HSUM2.out A2 c2 _ (sl_rowF hL)).mono ?_
     rintro e v6 ⟨rfl,hB⟩
     dsimp only
     have hGB:=hGB.below hB hGB.lt
     have hE2:=hHeld.trans (hB.mono hHeld.size)
     refine hK.out _ _ hE2 (fun hHeld=>?_)
     clear hK K hB hL
     try simp only[Act.put,List.setIfInBounds_toArray,List.set_cons_zero,List.set_cons_succ]
     refine wpAnyH_ready (rs:=[7]) (by kernel_rfl) (by simp) ?_
     refine AllReadyH.cons (o:=⟨none,_,_,_,_,_⟩) rfl (fun K hK=>?_) AllReadyH.nil
     rw[if_pos (by rfl)]
     refine wp_store_row _ _ _ rfl gb SB rfl rfl 23 #[.int .u8 0,.int .u8 0,.int .u8 0,.int .u8 0,.int .u8 0,.int .u8 0,.int .u8 0,.int .u8 0,.int .u8 0,.int .u8 0,.int .u8 0,.int .u8 0,.int .u8 0,.int .u8 0,.int .u8 0,.int .u8 0] hGB HSS.out HSZ.out HSO.out ?_
     have hE9:=belowRow hHeld hgb SB
     refine hK.out _ _ hE9 (fun hHeld=>?_)
     clear hK K
     try simp only[Act.put]
     refine wpAnyH_done (by kernel_rfl) ?_ _
     go_wp2
     go_meet
     case rel=>exact⟨gb,rfl,Blk.setRow hGB,hE9⟩
   ·skip
    rw[if_pos (by rfl)]
    go_simp
    obtain⟨v7,hv⟩:∃X,X=v1.alloc (.cells #[.int .u8 0,.int .u8 0,.int .u8 0,.int .u8 0,.int .u8 0,.int .u8 0,.int .u8 0,.int .u8 0,.int .u8 0,.int .u8 0,.int .u8 0,.int .u8 0,.int .u8 0,.int .u8 0,.int .u8 0,.int .u8 0] 23):=⟨_,rfl⟩
    obtain⟨gb,hgbe⟩:∃gb,gb=v1.heap.size:=⟨_,rfl⟩
    have hGB:Blk v7 gb 23 #[.int .u8 0,.int .u8 0,.int .u8 0,.int .u8 0,.int .u8 0,.int .u8 0,.int .u8 0,.int .u8 0,.int .u8 0,.int .u8 0,.int .u8 0,.int .u8 0,.int .u8 0,.int .u8 0,.int .u8 0,.int .u8 0]:=by rw[hv,hgbe];exact Blk.new _ _ _
    have hgb:W2.heap.size≤gb:=by rw[hgbe];exact hHeld.size
    have hE:Below v1.heap.size v1 v7:=by rw[hv];exact(Below.refl _ _).alloc (Nat.le_refl _) _
    rw[←hv,←hgbe]
    have hLA:∀a,A1=some a→W2.heap.size≤a.block∧a.block ≠ gb:=fun a ha=>⟨hLA a ha,by have:=hL.lt ha;omega⟩
    have hL:=hL.next hE
    have hE2:=hHeld.trans (hE.mono hHeld.size)
    refine hK.out _ _ hE2 (fun hHeld=>?_)
    clear hK K hE hv hgbe
    try simp only[Act.put,List.setIfInBounds_toArray,List.set_cons_zero,List.set_cons_succ]
    refine wpAnyH_ready (rs:=[4]) (by kernel_rfl) (by simp) ?_
    refine AllReadyH.cons (o:=⟨some 21,_,_,_,_,_⟩) rfl (fun K hK=>?_) AllReadyH.nil
    rw[if_pos (by rfl)]
    refine wp_sl_append _ _ 35 35 rfl v7 5 i0 (.int .u8 0) 1 1 Tryz.underlying35 hi0 hz0 hz1 hz2 rfl A1 8 c1 (fnL ff 8) rfl hL (.slice A n c) rfl n (fnL z n) (HSRC.out _ hHeld) (by have:=HN.out;omega) (by have:=HN.out;unfold maxLen;omega) (by have:=HN.out;omega) (fun A2 c2 v8 hs1 hk1 ha1=>?_)
    rw[HCAT.out]at hs1
    have hL2:=hs1
    have hGB:=hk1.blk hGB (fun⟨a,e1,e2⟩=>(hLA a e1).2 e2.symm)
    have hE2:Below W2.heap.size W2 v8:=KeepF.below hHeld hk1 (fun k ⟨a,ha,e⟩=>by have:=hLA a ha;omega) hHeld.size
    have hL:=hL2
    refine hK.out _ _ hE2 (fun hHeld=>?_)
    clear hK K hs1 hk1 ha1 hL2 hLA
    try simp only[Act.put,List.setIfInBounds_toArray,List.set_cons_zero,List.set_cons_succ]
    refine wpAnyH_ready (rs:=[5]) (by kernel_rfl) (by simp) ?_
    refine AllReadyH.cons (o:=⟨some 22,_,_,_,_,_⟩) rfl (fun K hK=>?_) AllReadyH.nil
    rw[if_pos (by rfl)]
    go_simp
    refine(HSUM2.out A2 c2 _ (sl_rowF hL)).mono ?_
    rintro e v9 ⟨rfl,hB⟩
    dsimp only
    have hGB:=hGB.below hB hGB.lt
    have hE2:=hHeld.trans (hB.mono hHeld.size)
    refine hK.out _ _ hE2 (fun hHeld=>?_)
    clear hK K hB hL
    try simp only[Act.put,List.setIfInBounds_toArray,List.set_cons_zero,List.set_cons_succ]
    refine wpAnyH_ready (rs:=[7]) (by kernel_rfl) (by simp) ?_
    refine AllReadyH.cons (o:=⟨none,_,_,_,_,_⟩) rfl (fun K hK=>?_) AllReadyH.nil
    rw[if_pos (by rfl)]
    refine wp_store_row _ _ _ rfl gb SB rfl rfl 23 #[.int .u8 0,.int .u8 0,.int .u8 0,.int .u8 0,.int .u8 0,.int .u8 0,.int .u8 0,.int .u8 0,.int .u8 0,.int .u8 0,.int .u8 0,.int .u8 0,.int .u8 0,.int .u8 0,.int .u8 0,.int .u8 0] hGB HSS.out HSZ.out HSO.out ?_
    have hE9:=belowRow hHeld hgb SB
    refine hK.out _ _ hE9 (fun hHeld=>?_)
    clear hK K
    try simp only[Act.put]
    refine wpAnyH_done (by kernel_rfl) ?_ _
    go_wp2
    go_meet
    case rel=>exact⟨gb,rfl,Blk.setRow hGB,hE9⟩
  ·skip
   rw[if_pos (by rfl)]
   go_simp
   obtain⟨v10,hv⟩:∃X,X=w0.alloc (.cells #[.int .u8 0,.int .u8 0,.int .u8 0,.int .u8 0,.int .u8 0,.int .u8 0,.int .u8 0,.int .u8 0,.int .u8 0,.int .u8 0,.int .u8 0,.int .u8 0,.int .u8 0,.int .u8 0,.int .u8 0,.int .u8 0] 23):=⟨_,rfl⟩
   obtain⟨gb,hgbe⟩:∃gb,gb=w0.heap.size:=⟨_,rfl⟩
   have hGB:Blk v10 gb 23 #[.int .u8 0,.int .u8 0,.int .u8 0,.int .u8 0,.int .u8 0,.int .u8 0,.int .u8 0,.int .u8 0,.int .u8 0,.int .u8 0,.int .u8 0,.int .u8 0,.int .u8 0,.int .u8 0,.int .u8 0,.int .u8 0]:=by rw[hv,hgbe];exact Blk.new _ _ _
   have hgb:W2.heap.size≤gb:=by rw[hgbe];exact hHeld.size
   have hE:Below w0.heap.size w0 v10:=by rw[hv];exact(Below.refl _ _).alloc (Nat.le_refl _) _
   rw[←hv,←hgbe]
   have hE2:=hHeld.trans (hE.mono hHeld.size)
   refine hK.out _ _ hE2 (fun hHeld=>?_)
   clear hK K hE hv hgbe
   try simp only[Act.put,List.setIfInBounds_toArray,List.set_cons_zero,List.set_cons_succ]
   refine wpAnyH_ready (rs:=[2]) (by kernel_rfl) (by simp) ?_
   refine AllReadyH.cons (o:=⟨some 19,_,_,_,_,_⟩) rfl (fun K hK=>?_) AllReadyH.nil
   rw[if_pos (by rfl)]
   refine wp_sl_append _ _ 35 35 rfl v10 5 i0 (.int .u8 0) 1 1 Tryz.underlying35 hi0 hz0 hz1 hz2 rfl none 0 0 [] rfl (SL.nil _ _ _) (.slice (some ⟨pb,0,none⟩) 8 16) rfl 8 (fnL ff 8) (HP8.out _ hHeld) (by omega) (by unfold maxLen;omega) (by omega) (fun A1 c1 v11 hs1 hk1 ha1=>?_)
   rw[List.nil_append,Nat.zero_add]at hs1
   rw[Nat.zero_add]
   have hE:Below v10.heap.size v10 v11:=KeepF.below (Below.refl _ _) hk1 (fun k ⟨a,ha,_⟩=>by cases ha) (Nat.le_refl _)
   have hL:=hs1
   have hLA:∀a,A1=some a→W2.heap.size≤a.block∧a.block ≠ gb:=fun a ha=>by
    rcases ha1 a ha with ⟨a',h1,_⟩ | h2
    ·cases h1
    ·have:=hHeld.size;have:=hGB.lt
     omega
   have hGB:=hGB.below hE hGB.lt
   have hE2:=hHeld.trans (hE.mono hHeld.size)
   refine hK.out _ _ hE2 (fun hHeld=>?_)
   clear hK K hE hs1 hk1 ha1
   try simp only[Act.put,List.setIfInBounds_toArray,List.set_cons_zero,List.set_cons_succ]
   refine wpAnyH_ready (rs:=[4]) (by kernel_rfl) (by simp) ?_
   refine AllReadyH.cons (o:=⟨some 21,_,_,_,_,_⟩) rfl (fun K hK=>?_) AllReadyH.nil
   rw[if_pos (by rfl)]
   refine wp_sl_append _ _ 35 35 rfl v11 5 i0 (.int .u8 0) 1 1 Tryz.underlying35 hi0 hz0 hz1 hz2 rfl A1 8 c1 (fnL ff 8) rfl hL (.slice A n c) rfl n (fnL z n) (HSRC.out _ hHeld) (by have:=HN.out;omega) (by have:=HN.out;unfold maxLen;omega) (by have:=HN.out;omega) (fun A2 c2 v12 hs1 hk1 ha1=>?_)
   rw[HCAT.out]at hs1
   have hL2:=hs1
   have hGB:=hk1.blk hGB (fun⟨a,e1,e2⟩=>(hLA a e1).2 e2.symm)
   have hE2:Below W2.heap.size W2 v12:=KeepF.below hHeld hk1 (fun k ⟨a,ha,e⟩=>by have:=hLA a ha;omega) hHeld.size
   have hL:=hL2
   refine hK.out _ _ hE2 (fun hHeld=>?_)
   clear hK K hs1 hk1 ha1 hL2 hLA
   try simp only[Act.put,List.setIfInBounds_toArray,List.set_cons_zero,List.set_cons_succ]
   refine wpAnyH_ready (rs:=[5]) (by kernel_rfl) (by simp) ?_
   refine AllReadyH.cons (o:=⟨some 22,_,_,_,_,_⟩) rfl (fun K hK=>?_) AllReadyH.nil
   rw[if_pos (by rfl)]
   go_simp
   refine(HSUM2.out A2 c2 _ (sl_rowF hL)).mono ?_
   rintro e v13 ⟨rfl,hB⟩
   dsimp only
   have hGB:=hGB.below hB hGB.lt
   have hE2:=hHeld.trans (hB.mono hHeld.size)
   refine hK.out _ _ hE2 (fun hHeld=>?_)
   clear hK K hB hL
   try simp only[Act.put,List.setIfInBounds_toArray,List.set_cons_zero,List.set_cons_succ]
   refine wpAnyH_ready (rs:=[7]) (by kernel_rfl) (by simp) ?_
   refine AllReadyH.cons (o:=⟨none,_,_,_,_,_⟩) rfl (fun K hK=>?_) AllReadyH.nil
   rw[if_pos (by rfl)]
   refine wp_store_row _ _ _ rfl gb SB rfl rfl 23 #[.int .u8 0,.int .u8 0,.int .u8 0,.int .u8 0,.int .u8 0,.int .u8 0,.int .u8 0,.int .u8 0,.int .u8 0,.int .u8 0,.int .u8 0,.int .u8 0,.int .u8 0,.int .u8 0,.int .u8 0,.int .u8 0] hGB HSS.out HSZ.out HSO.out ?_
   have hE9:=belowRow hHeld hgb SB
   refine hK.out _ _ hE9 (fun hHeld=>?_)
   clear hK K
   try simp only[Act.put]
   refine wpAnyH_done (by kernel_rfl) ?_ _
   go_wp2
   go_meet
   case rel=>exact⟨gb,rfl,Blk.setRow hGB,hE9⟩
 case rest=>
  obtain⟨g,rfl,hG,hX⟩:=hcut
  have y0:=(hG.cell 0).trans (HSA.out 0 (by decide))
  have y1:=(hG.cell 1).trans (HSA.out 1 (by decide))
  have y2:=(hG.cell 2).trans (HSA.out 2 (by decide))
  have y3:=(hG.cell 3).trans (HSA.out 3 (by decide))
  have HX:=zh (C3.out.trans (hX.mono C3.out.size))
  have b0:=HS16.out 0 (by decide)
  have b1:=HS16.out 1 (by decide)
  have b2:=HS16.out 2 (by decide)
  have b3:=HS16.out 3 (by decide)
  clear HCO
  obtain⟨f0,hf0⟩:∃f,f=s 0:=⟨_,rfl⟩
  rw[←hf0]at y0 b0
  obtain⟨f1,hf1⟩:∃f,f=s 1:=⟨_,rfl⟩
  rw[←hf1]at y1 b1
  obtain⟨f2,hf2⟩:∃f,f=s 2:=⟨_,rfl⟩
  rw[←hf2]at y2 b2
  obtain⟨f3,hf3⟩:∃f,f=s 3:=⟨_,rfl⟩
  rw[←hf3]at y3 b3
  have o1:=four_a f0 f1 b0 b1
  have o2:=four_b (f0*256+f1) f2 (by omega) b2
  have o3:=four_c ((f0*256+f1)*256+f2) f3 (by omega) b3
  have v0:IntKind.u32.wrap (f0:Int)=(f0:Int):=by simp[IntKind.wrap_u32];omega
  have v1:IntKind.u32.wrap (f1:Int)=(f1:Int):=by simp[IntKind.wrap_u32];omega
  have v2:IntKind.u32.wrap (f2:Int)=(f2:Int):=by simp[IntKind.wrap_u32];omega
  have v3:IntKind.u32.wrap (f3:Int)=(f3:Int):=by simp[IntKind.wrap_u32];omega
  have s0:IntKind.u32.wrap ((f0:Int)*16777216)=(f0:Int)*16777216:=by simp[IntKind.wrap_u32];omega
  have s1:IntKind.u32.wrap ((f1:Int)*65536)=(f1:Int)*65536:=by simp[IntKind.wrap_u32];omega
  have s2:IntKind.u32.wrap ((f2:Int)*256)=(f2:Int)*256:=by simp[IntKind.wrap_u32];omega
  have k0:(0:Int)≤(f0:Int):=by omega
  have k1:(f0:Int) < 256:=by omega
  have k2:(0:Int)≤(f1:Int):=by omega
  have k3:(f1:Int) < 256:=by omega
  have k4:(0:Int)≤(f2:Int):=by omega
  have k5:(f2:Int) < 256:=by omega
  have k6:(0:Int)≤(f3:Int):=by omega
  have k7:(f3:Int) < 256:=by omega
  obtain⟨x3,hx3⟩:∃x,x=((f0*256+f1)*256+f2)*256+f3:=⟨_,rfl⟩
  rw[←hx3]at o3
  have HX3:=zh (show x3=((s 0*256+s 1)*256+s 2)*256+s 3 by rw[hx3,hf0,hf1,hf2,hf3])
  clear hx3 hf0 hf1 hf2 hf3
  generalize (f0*256+f1)*256+f2=x2 at o2 o3
  generalize f0*256+f1=x1 at o1 o2
  clear hG hX
  go_wp2
  go_ret
  refine⟨?_,HX.out⟩
  show Ending.returned (.int .u32 (x3:Int))=_
  rw[HX3.out]
end Go.Proofs.YtnadmdadcpemnaaGreat
namespace Go.Proofs.YtnadmdadcpemnaaGreat
open Go.RowKit
attribute [local go_sem ↓] Go.wp_at_zero Go.wp_at_succ
set_option linter.unusedVariables false
theorem src_four (V:World) (a b c d:Int):Src Tryz.prog 1 35 (.slice (some ⟨V.heap.size,0,none⟩) 4 4) 4 [.int .u8 a,.int .u8 b,.int .u8 c,.int .u8 d] (V.alloc (.cells #[.int .u8 a,.int .u8 b,.int .u8 c,.int .u8 d] 5)):=
 Src.ofSlice _ Tryz.underlying35 ⟨V.heap.size,0,none⟩ 4 4 _ (by rfl) (fun j u hu=>by
  rw[Addr.add_lit,Nat.zero_add,(blk_atA V 5 #[.int .u8 a,.int .u8 b,.int .u8 c,.int .u8 d] V.heap.size rfl).cell j]
  simpa using hu) (by intro u hu;simp at hu;rcases hu with rfl | rfl | rfl | rfl<;>rfl)
set_option maxRecDepth 100000 in
set_option maxHeartbeats 3200000 in
theorem rpdu_ig (cf:Cfg) (hok:cf.Ok) (hv:cf.Valid) (hig:cf.ig=true) (ct:Nat) (hct:ct < 4294967296) (A:Option Addr) (n c:Nat) (z:Nat→Nat) (hp1:1≤n) (hp9:n≤9000) (w:World) (hr:Row w w.heap.size A n (fun j=>.int .u8 ((z j:Nat):Int))) (hz:∀j,j < n→z j < 256) :
  Calls Tryz.prog 12 #[.agg cf.arr,.int .u32 ct,.slice A n c] w (PduC cf ct n z w):=by
 have HR:=zh hr
 have HZ:=zh hz
 have c0:(0:Int)≤(ct:Int):=by omega
 have c1:(ct:Int) < 4294967296:=by omega
 have HIG:=zh hig
 have hpn:pduN cf n=2+(n+4):=by unfold pduN plainN;rw[if_pos hig]
 obtain⟨B,hB⟩:∃B:Nat,B=cf.b.toNat:=⟨_,rfl⟩
 obtain⟨D,hD⟩:∃D:Nat,D=cf.d.toNat:=⟨_,rfl⟩
 have HBI:Hid (cf.b=(B:Int)):=zh (by rw[hB];have:=hv.1;omega)
 have HDI:Hid (cf.d=(D:Int)):=zh (by rw[hD];have:=hv.2.2.1;omega)
 obtain⟨y,hy⟩:∃y,y=plainZ cf ct n z:=⟨_,rfl⟩
 have HY8:Hid (∀j,y j < 256):=zh (by rw[hy];exact plainZ_lt hz)
 obtain⟨M,hM⟩:∃M,M=codeF (nf cf.code) ct B D (catF (hdB ct) 2 z) (2+n):=⟨_,rfl⟩
 have HKC:Hid (B16 (nf cf.code)):=zh (fun j hj=>nf_lt hok.code hj)
 have HML:Hid (M < 4294967296):=zh (by rw[hM];exact codeF_lt ct B D HKC.out (catF_lt (fun j _=>hdB_lt ct j) hz))
 have HCD:=zh (fun A2 c2 V h2=>rcode_ok (nf cf.code) ct B D HKC.out hct (by rw[hB];have:=hv.2.1;omega) (by rw[hD];have:=hv.2.2.1;omega) A2 (2+n) c2 (catF (hdB ct) 2 z) (by omega) (by omega) (catF_lt (fun j _=>hdB_lt ct j) hz) V h2)
 rw[←hM]at HCD
 have HYL:Hid (fnL z n++[.int .u8 ((byte4 M 0:Nat):Int),.int .u8 ((byte4 M 1:Nat):Int),.int .u8 ((byte4 M 2:Nat):Int),.int .u8 ((byte4 M 3:Nat):Int)] = fnL y (n+4)):=zh (by
  rw[show [Value.int .u8 ((byte4 M 0:Nat):Int),.int .u8 ((byte4 M 1:Nat):Int),.int .u8 ((byte4 M 2:Nat):Int),.int .u8 ((byte4 M 3:Nat):Int)] = fnL (byte4 M) 4 from rfl,fnL_cat,hy,hM,hB,hD]
  rfl)
 have HY0:Hid ((M:Int) / 16777216=((byte4 M 0:Nat):Int)):=zh (by have:=HML.out;unfold byte4;simp only[Nat.mul_zero,Nat.sub_zero,Nat.reducePow];omega)
 have HY1:Hid ((M:Int) / 65536 % 256=((byte4 M 1:Nat):Int)):=zh (by unfold byte4;simp only[Nat.reduceMul,Nat.reduceSub,Nat.reducePow];omega)
 have HY2:Hid ((M:Int) / 256 % 256=((byte4 M 2:Nat):Int)):=zh (by unfold byte4;simp only[Nat.reduceMul,Nat.reduceSub,Nat.reducePow];omega)
 have HY3:Hid ((M:Int) % 256=((byte4 M 3:Nat):Int)):=zh (by unfold byte4;simp only[Nat.reduceMul,Nat.reduceSub,Nat.reducePow];omega)
 have m0:(0:Int)≤(M:Int):=by omega
 have m1:(M:Int) < 4294967296:=by have:=HML.out;omega
 have HCR:=zh (fun A2 c2 V (h2:Row V V.heap.size A2 (n+4) (fun j=>.int .u8 ((y j:Nat):Int)))=>rcrypt_ok (nf cf.key) ct B D hok.keyN hct (by rw[hB];have:=hv.2.1;omega) (by rw[hD];have:=hv.2.2.1;omega) A2 (n+4) c2 y (by omega) (fun j _=>HY8.out j) V h2)
 have HP:Hid (1≤n∧n≤9000):=zh ⟨hp1,hp9⟩
 have HL:=zh (show pduL cf ct n z=[.int .u8 ((hdB ct 0:Nat):Int),.int .u8 ((hdB ct 1:Nat):Int)]++cryL (nf cf.key) ct B D y (n+4) by
  rw[hy,hB,hD,show [Value.int .u8 ((hdB ct 0:Nat):Int),.int .u8 ((hdB ct 1:Nat):Int)] = fnL (hdB ct) 2 from rfl,show cryL (nf cf.key) ct cf.b.toNat cf.d.toNat (plainZ cf ct n z) (n+4)=fnL (cryF (nf cf.key) ct cf.b.toNat cf.d.toNat (plainZ cf ct n z)) (n+4)from rfl,fnL_cat]
  unfold pduL
  rw[hpn]
  rfl)
 have HH0:Hid (((hdB ct 0:Nat):Int)=128+(ct:Int) / 256 % 16):=zh (by unfold hdB;rw[if_pos rfl];omega)
 have HH1:Hid (((hdB ct 1:Nat):Int)=(ct:Int) % 256):=zh (by unfold hdB;rw[if_neg (by decide)];omega)
 obtain⟨Q,hQ⟩:∃Q:Ending→World→Prop,Q=PduC cf ct n z w:=⟨_,rfl⟩
 have HQ:Hid (∀w' A c,SL w' 5 1 A (2+(n+4)) c (pduL cf ct n z)→Fresh w.heap.size A→Below w.heap.size w w'→Q (.returned (.slice A (2+(n+4)) c)) w'):=zh (by rw[hQ];exact fun w' A c h1 h2 h3=>⟨A,c,by rw[hpn],by rw[hpn];exact h1,h2,h3⟩)
 rw[←hQ]
 obtain⟨CA,hCA⟩:∃CA,CA=cf.arr:=⟨_,rfl⟩
 have HC0:Hid (CA[0]? = some (.int .i64 (B:Int))):=zh (by rw[hCA,cf.arr_at (by decide),show cf.cell 0=.int .i64 cf.b from rfl,HBI.out])
 have HC1:Hid (CA[1]? = some (.int .i64 (D:Int))):=zh (by rw[hCA,cf.arr_at (by decide),show cf.cell 1=.int .i64 cf.d from rfl,HDI.out])
 have HC34:Hid (CA[34]? = some (.bool true)):=zh (by rw[hCA,cf.arr_at (by decide),show cf.cell 34=.bool cf.ig from rfl,hig])
 have HCK:Hid (∀j,j < 16→CA[2+j]? = some (.int .u8 ((nf cf.key j:Nat):Int))):=zh (by
  rw[hCA]
  intro j hj
  rw[cf.arr_at (by omega)]
  unfold Cfg.cell
  rw[if_neg (by omega),if_neg (by omega),if_pos (by omega),show 2+j-2=j by omega,nf_cast hok.key hj])
 have HCC:Hid (∀j,j < 16→CA[18+j]? = some (.int .u8 ((nf cf.code j:Nat):Int))):=zh (by
  rw[hCA]
  intro j hj
  rw[cf.arr_at (by omega)]
  unfold Cfg.cell
  rw[if_neg (by omega),if_neg (by omega),if_neg (by omega),if_pos (by omega),show 18+j-18=j by omega,nf_cast hok.code hj])
 rw[←hCA]
 obtain⟨KL,hKL⟩:∃KL,KL=(b16 (nf cf.key)).toList:=⟨_,rfl⟩
 have HS16:Hid ((Tryz.prog.info? 23).map (·.size)=some KL.length):=zh (by rw[hKL,Array.length_toList,b16_size];kernel_rfl)
 have HKL:Hid (∀j,j < 16→KL[j]? = some (.int .u8 ((nf cf.key j:Nat):Int))):=zh (by rw[hKL];intro j hj;rw[Array.getElem?_toList,b16_at _ hj])
 have HKS:Hid (KL.length=16):=zh (by rw[hKL,Array.length_toList,b16_size])
 have HCR2:Hid (∀A2 c2 V,Row V V.heap.size A2 (n+4) (fun j=>.int .u8 ((y j:Nat):Int))→Calls Tryz.prog 37 #[.agg KL.toArray,.int .u32 ct,.int .i64 B,.int .i64 D,.slice A2 (n+4) c2] V (RCry (nf cf.key) ct B D (n+4) y V)):=zh (by rw[hKL,Array.toArray_toList];exact HCR.out)
 obtain⟨KD,hKD⟩:∃KD,KD=(b16 (nf cf.code)).toList:=⟨_,rfl⟩
 have HS16D:Hid ((Tryz.prog.info? 23).map (·.size)=some KD.length):=zh (by rw[hKD,Array.length_toList,b16_size];kernel_rfl)
 have HKD:Hid (∀j,j < 16→KD[j]? = some (.int .u8 ((nf cf.code j:Nat):Int))):=zh (by rw[hKD];intro j hj;rw[Array.getElem?_toList,b16_at _ hj])
 have HKDS:Hid (KD.length=16):=zh (by rw[hKD,Array.length_toList,b16_size])
 have HCD2:Hid (∀A2 c2 V,Row V V.heap.size A2 (2+n) (fun j=>.int .u8 ((catF (hdB ct) 2 z j:Nat):Int))→Calls Tryz.prog 36 #[.agg KD.toArray,.int .u32 ct,.int .i64 B,.int .i64 D,.slice A2 (2+n) c2] V fun e w'=>e=.returned (.int .u32 (M:Int))∧Below V.heap.size V w'):=zh (by rw[hKD,Array.toArray_toList];exact HCD.out)
 have HMC:=zh (fnL_cat (hdB ct) z 2 n)
 obtain⟨i0,hi0,hz0,hz1,hz2⟩:=info_parts Tryz.infoByte
 clear HCR HCD hKD hy hM hKL hQ hCA hr hz hct hp1 hp9 hok hv hig hB hD hpn HBI HDI
 go_enter Tryz.func12,Tryz.ntmps12
 go_upto_region 2 with (fail)
 obtain⟨cb,hcb⟩:∃cb,cb=w.heap.size:=⟨_,rfl⟩
 have HCB:=zh hcb
 obtain⟨lb,lo,hAA,hlb,hlc⟩:=HR.out (by have:=HP.out;omega)
 subst hAA
 rw[←HH0.out,←HH1.out]
 obtain⟨HDV,hHDV⟩:∃L:List Value,L=[.int .u8 ((hdB ct 0:Nat):Int),.int .u8 ((hdB ct 1:Nat):Int)]:=⟨_,rfl⟩
 have HHL:=zh (show HDV.length=2 by rw[hHDV];rfl)
 refine wp_let (fun V=>Blk V cb 25 CA∧SL V 5 1 (some ⟨cb+1,0,none⟩) 2 2 HDV∧Below w.heap.size w V∧cb+1 < V.heap.size) ⟨by rw[hcb];exact(Blk.new _ _ _).alloc _,by
  rw[hcb,hHDV]
  exact⟨rfl,.inr ⟨_,0,_,rfl,blk_atA _ _ _ _ (by simp),Nat.le_refl _,by unfold maxLen;omega,by simp,fun j hj=>by rw[Nat.zero_add];simp⟩⟩,((Below.refl _ w).alloc (Nat.le_refl _) _).alloc (by simp) _,by rw[hcb];simp⟩ ?_
 rintro V ⟨b1,b2,b3,b4⟩
 have B1:=zh b1
 have B2:=zh b2
 have B3:=zh b3
 rw[←hcb]
 have HSRC:Hid (Src Tryz.prog 1 35 (.slice (some ⟨lb,lo,none⟩) n c) n (fnL z n) V):=zh (src_row HP.out.1 (HR.out.next b3))
 have HHV:=zh hHDV
 clear b1 b2 b3 hcb hlb hlc hHDV
 go_upto_region 3 with (refine wpList_sl_append rfl _ _ _ _ rfl V 5 i0 (.int .u8 0) 1 1 Tryz.underlying35 hi0 hz0 hz1 hz2 rfl none 0 0 _ rfl (SL.nil _ _ _) _ rfl n (fnL z n) HSRC.out HP.out.1 (by have:=HP.out;unfold maxLen;omega) (by have:=HP.out;omega) ?_;intro A2 c2 V2 hs2 hk2 ha2;have HS2:=zh hs2;have HK2:=zh hk2;have HA2:=zh ha2;clear hs2 hk2 ha2)
 have hbV:Below V.heap.size V V2:=KeepF.below (Below.refl _ _) HK2.out (fun k ⟨a,ha,_⟩=>by cases ha) (Nat.le_refl _)
 have HBV:=zh hbV
 have HB2:=zh (B3.out.trans (hbV.mono B3.out.size))
 have C1:=zh (B1.out.below hbV B1.out.lt)
 have C2:=zh (B2.out.next hbV)
 have x34:V2.cell? ⟨cb,34,none⟩=some (.bool true):=(C1.out.cell 34).trans HC34.out
 have x0:V2.cell? ⟨cb,0,none⟩=some (.int .i64 (B:Int)):=(C1.out.cell 0).trans HC0.out
 have x1:V2.cell? ⟨cb,1,none⟩=some (.int .i64 (D:Int)):=(C1.out.cell 1).trans HC1.out
 have HKR:=zh (show V2.rangeAt cb 2 KL from fun j v hv=>by
  have hj:j < 16:=by have:=(List.getElem?_eq_some_iff.1 hv).1;rw[HKS.out]at this;exact this
  rw[C1.out.cell (2+j),HCK.out j hj,←hv,HKL.out j hj])
 have HSV2:=zh (show SL V2 5 1 A2 n c2 (fnL z n)from by simpa using HS2.out)
 have HKRD:=zh (show ∀W',Below V2.heap.size V2 W'→W'.rangeAt cb 18 KD from fun W' hW j v hv=>by
  have hj:j < 16:=by have:=(List.getElem?_eq_some_iff.1 hv).1;rw[HKDS.out]at this;exact this
  rw[(C1.out.below hW C1.out.lt).cell (18+j),HCC.out j hj,←hv,HKD.out j hj])
 have HX0:=zh (show ∀W',Below V2.heap.size V2 W'→W'.cell? ⟨cb,0,none⟩=some (.int .i64 (B:Int))from fun W' hW=>((C1.out.below hW C1.out.lt).cell 0).trans HC0.out)
 have HX1:=zh (show ∀W',Below V2.heap.size V2 W'→W'.cell? ⟨cb,1,none⟩=some (.int .i64 (D:Int))from fun W' hW=>((C1.out.below hW C1.out.lt).cell 1).trans HC1.out)
 have HHDV:=zh (show HDV=fnL (hdB ct) 2 from HHV.out)
 have HUK:=zh Tryz.underlying23
 clear hbV x0 x1
 go_upto_region 4 with (fail)
 obtain⟨w0,hw0⟩:∃w0,w0=V2.drew:=⟨_,rfl⟩
 refine wp_region_held_drew (S:=fun w'=>Below V2.heap.size V2 w') (by kernel_rfl) ((Below.refl _ V2).drew) (fun hHeld=>?_)
 rw[←hw0]
 rw[←hw0]at hHeld
 clear hw0 x34
 refine tkH (i:=0) (oi:=⟨some 23,_,_,_,_,_⟩) (v:=.pointer (some ⟨cb,18,none⟩)) rfl (Or.inl ⟨by rfl,fun W hW=>(by go_simp)⟩) (by assumption) ?_
 refine' tkH (i:=1) (oi:=⟨some 24,_,_,_,_,_⟩) (v:=_) rfl (yieldsIf_load_mid (by rfl) _ _ rfl cb 18 rfl KD _ (fun w h=>HKRD.out w h) HUK.out rfl HS16D.out) (by assumption) ?_
 refine tkH (i:=2) (oi:=⟨some 25,_,_,_,_,_⟩) (v:=.int .u32 ct) rfl (Or.inl ⟨by rfl,fun W hW=>(by rfl)⟩) (by assumption) ?_
 refine tkH (i:=3) (oi:=⟨some 26,_,_,_,_,_⟩) (v:=.pointer (some ⟨cb,0,none⟩)) rfl (Or.inl ⟨by rfl,fun W hW=>(by go_simp)⟩) (by assumption) ?_
 refine tkH (i:=4) (oi:=⟨some 27,_,_,_,_,_⟩) (v:=.int .i64 (B:Int)) rfl (Or.inl ⟨by rfl,fun W hW=>(by have:=HX0.out W hW;go_simp)⟩) (by assumption) ?_
 refine tkH (i:=5) (oi:=⟨some 28,_,_,_,_,_⟩) (v:=.pointer (some ⟨cb,1,none⟩)) rfl (Or.inl ⟨by rfl,fun W hW=>(by go_simp)⟩) (by assumption) ?_
 refine tkH (i:=6) (oi:=⟨some 29,_,_,_,_,_⟩) (v:=.int .i64 (D:Int)) rfl (Or.inl ⟨by rfl,fun W hW=>(by have:=HX1.out W hW;go_simp)⟩) (by assumption) ?_
 refine tkH (i:=7) (oi:=⟨some 30,_,_,_,_,_⟩) (v:=.slice (some ⟨cb+1,0,none⟩) 2 2) rfl (Or.inl ⟨by rfl,fun W hW=>(by rfl)⟩) (by assumption) ?_
 refine tkH (i:=9) (oi:=⟨some 32,_,_,_,_,_⟩) (v:=.slice (some ⟨lb,lo,none⟩) n c) rfl (Or.inl ⟨by rfl,fun W hW=>(by rfl)⟩) (by assumption) ?_
 refine wpAnyH_ready (rs:=[8]) (by kernel_rfl) (by simp) ?_
 refine AllReadyH.cons (o:=⟨some 31,_,_,_,_,_⟩) rfl (fun K hK=>?_) AllReadyH.nil
 rw[if_pos (by rfl)]
 refine wp_sl_append _ _ 35 35 rfl w0 5 i0 (.int .u8 0) 1 1 Tryz.underlying35 hi0 hz0 hz1 hz2 rfl none 0 0 [] rfl (SL.nil _ _ _) (.slice (some ⟨cb+1,0,none⟩) 2 2) rfl 2 (fnL (hdB ct) 2) (src3 (by have h:=C2.out.next hHeld;rw[HHDV.out]at h;exact h) (fun u hu=>fnL_one hu)) (by omega) (by unfold maxLen;omega) (by omega) (fun A5 c5 u1 hs1 hk1 ha1=>?_)
 rw[List.nil_append,Nat.zero_add]at hs1
 rw[Nat.zero_add]
 have hE:Below w0.heap.size w0 u1:=KeepF.below (Below.refl _ _) hk1 (fun k ⟨a,ha,_⟩=>by cases ha) (Nat.le_refl _)
 have hL:=hs1
 have hLA:∀a,A5=some a→V2.heap.size≤a.block:=fun a ha=>by
  rcases ha1 a ha with ⟨a',h1,_⟩ | h2
  ·cases h1
  ·have:=hHeld.size
   omega
 have hE2:=hHeld.trans (hE.mono hHeld.size)
 refine hK.out _ _ hE2 (fun hHeld=>?_)
 clear hK K hE hs1 hk1 ha1
 try simp only[Act.put,List.setIfInBounds_toArray,List.set_cons_zero,List.set_cons_succ]
 refine wpAnyH_ready (rs:=[10]) (by kernel_rfl) (by simp) ?_
 refine AllReadyH.cons (o:=⟨some 33,_,_,_,_,_⟩) rfl (fun K hK=>?_) AllReadyH.nil
 rw[if_pos (by rfl)]
 refine wp_sl_append _ _ 35 35 rfl u1 5 i0 (.int .u8 0) 1 1 Tryz.underlying35 hi0 hz0 hz1 hz2 rfl A5 2 c5 (fnL (hdB ct) 2) rfl hL (.slice (some ⟨lb,lo,none⟩) n c) rfl n (fnL z n) (src_row HP.out.1 (HR.out.next (HB2.out.trans (hE2.mono HB2.out.size)))) HP.out.1 (by have:=HP.out;unfold maxLen;omega) (by have:=HP.out;omega) (fun A6 c6 u2 hs1 hk1 ha1=>?_)
 rw[HMC.out]at hs1
 have hE3:Below V2.heap.size V2 u2:=KeepF.below hHeld hk1 (fun k ⟨a,ha,e⟩=>by have:=hLA a ha;omega) hHeld.size
 have hL2:=hs1
 refine hK.out _ _ hE3 (fun hHeld=>?_)
 clear hK K hs1 hk1 ha1 hLA hL
 try simp only[Act.put,List.setIfInBounds_toArray,List.set_cons_zero,List.set_cons_succ]
 refine wpAnyH_ready (rs:=[11]) (by kernel_rfl) (by simp) ?_
 refine AllReadyH.cons (o:=⟨some 34,_,_,_,_,_⟩) rfl (fun K hK=>?_) AllReadyH.nil
 rw[if_pos (by rfl)]
 go_simp
 refine(HCD2.out A6 c6 _ (sl_rowF hL2)).mono ?_
 rintro e u3 ⟨rfl,hB⟩
 dsimp only
 have hE4:=hHeld.trans (hB.mono hHeld.size)
 refine hK.out _ _ hE4 (fun hHeld=>?_)
 clear hK K hB hL2
 try simp only[Act.put,List.setIfInBounds_toArray,List.set_cons_zero,List.set_cons_succ]
 refine tkH (i:=12) (oi:=⟨some 9,_,_,_,_,_⟩) (v:=.int .u32 (M:Int)) rfl (Or.inl ⟨by rfl,fun W hW=>(by rfl)⟩) (by assumption) ?_
 refine wpAnyH_done (by kernel_rfl) ?_ _
 refine then_let (fun V=>Below V2.heap.size V2 V) hE4 ?_
 intro V4 hE5
 have HE5:=zh hE5
 clear hHeld hE2 hE3 hE4 hE5
 have HSV4:=zh (HSV2.out.next HE5.out)
 have HA4:=zh (show ∀a,A2=some a→cb+1 < a.block from fun a ha=>by
  rcases HA2.out a ha with ⟨a',h1,_⟩ | h2
  ·cases h1
  ·have:=b4;omega)
 go_upto_region 6 with (refine wpList_sl_append rfl _ _ 35 35 rfl (V4.alloc (.cells #[.int .u8 ((M:Int) / 16777216),.int .u8 ((M:Int) / 65536 % 256),.int .u8 ((M:Int) / 256 % 256),.int .u8 ((M:Int) % 256)] 5)) 5 i0 (.int .u8 0) 1 1 Tryz.underlying35 hi0 hz0 hz1 hz2 rfl A2 n c2 (fnL z n) rfl (HSV4.out.next ((Below.refl _ _).alloc (Nat.le_refl _) _)) (.slice (some ⟨V4.heap.size,0,none⟩) 4 4) rfl 4 [.int .u8 ((M:Int) / 16777216),.int .u8 ((M:Int) / 65536 % 256),.int .u8 ((M:Int) / 256 % 256),.int .u8 ((M:Int) % 256)] (src_four V4 _ _ _ _) (by decide) (by have:=HP.out;unfold maxLen;omega) (by have:=HP.out;omega) ?_;intro A7 c7 V7 hs7 hk7 ha7;have HS7:=zh hs7;have HK7:=zh hk7;clear hs7 hk7 ha7)
 have hal:Below V4.heap.size V4 (V4.alloc (.cells #[.int .u8 ((M:Int) / 16777216),.int .u8 ((M:Int) / 65536 % 256),.int .u8 ((M:Int) / 256 % 256),.int .u8 ((M:Int) % 256)] 5)):=(Below.refl _ _).alloc (Nat.le_refl _) _
 have hw4:=HB2.out.trans (HE5.out.mono HB2.out.size)
 have hbw7:Below w.heap.size w V7:=KeepF.below (hw4.trans (hal.mono hw4.size)) HK7.out (fun k ⟨a,ha,e⟩=>by have:=HA4.out a ha;have:=HCB.out;omega) (Nat.le_trans hw4.size hal.size)
 have HW7:=zh hbw7
 have h1:=C1.out.below HE5.out C1.out.lt
 have K1:=zh (HK7.out.blk (h1.below hal h1.lt) (fun⟨a,e1,e2⟩=>by have:=HA4.out a e1;omega))
 have K2:=zh (((C2.out.next HE5.out).next hal).keepF HK7.out (fun a ha ⟨a',e1,e2⟩=>by cases ha;have:=HA4.out a' e1;simp only at e2;omega))
 have HS8:Hid (SL V7 5 1 A7 (n+4) c7 (fnL y (n+4))):=zh (by
  have h:=HS7.out
  rw[HY0.out,HY1.out,HY2.out,HY3.out,HYL.out]at h
  exact h)
 have HR7:=zh (sl_rowF HS8.out)
 have HKR:=zh (show V7.rangeAt cb 2 KL from fun j v hv=>by
  have hj:j < 16:=by have:=(List.getElem?_eq_some_iff.1 hv).1;rw[HKS.out]at this;exact this
  rw[K1.out.cell (2+j),HCK.out j hj,←hv,HKL.out j hj])
 have x0:V7.cell? ⟨cb,0,none⟩=some (.int .i64 (B:Int)):=(K1.out.cell 0).trans HC0.out
 have x1:V7.cell? ⟨cb,1,none⟩=some (.int .i64 (D:Int)):=(K1.out.cell 1).trans HC1.out
 clear hal hw4 hbw7 h1
 go_wp2_with (first
  | (refine wpList_load_mid rfl 23 _ rfl cb 2 rfl KL _ HKR.out HUK.out rfl HS16.out ?_)
  | (go_at_call 37;refine(HCR2.out A7 c7 V7 HR7.out).mono ?_;rintro e V3 ⟨A3,c3,rfl,hs3,hf3,hb3⟩;obtain⟨b3,o3,rfl,hlt3⟩:=hs3.some_ (by omega);have HSL3:=zh (K2.out.next hb3);have HSRC3:=zh (src3 hs3);have HF3:=zh hf3;have HB3:=zh hb3;clear hs3 hf3 hb3 hlt3)
  | (refine wpList_sl_append rfl _ _ _ _ rfl V3 5 i0 (.int .u8 0) 1 1 Tryz.underlying35 hi0 hz0 hz1 hz2 rfl (some ⟨cb+1,0,none⟩) 2 2 HDV rfl HSL3.out _ rfl (n+4) _ HSRC3.out (by omega) (by have:=HP.out;unfold maxLen;omega) (by have:=HP.out;omega) ?_;intro A9 c9 V9 hs9 hk9 ha9;have HS9:=zh hs9;have HK9:=zh hk9;have HA9:=zh ha9;clear hs9 hk9 ha9))
 refine HQ.out _ _ _ (by rw[HL.out,←HHV.out];exact HS9.out) (fun a ha=>?_) ?_
 ·rcases HA9.out a ha with ⟨a',h1,h2⟩ | h2
  ·cases h1
   rw[h2,HCB.out]
   exact Nat.le_succ _
  ·exact Nat.le_trans HW7.out.size (Nat.le_trans HB3.out.size h2)
 ·exact KeepF.below (HW7.out.trans (HB3.out.mono HW7.out.size)) HK9.out (fun k ⟨a,ha,e⟩=>by cases ha;rw[e,HCB.out];exact Nat.le_succ _) (Nat.le_trans HW7.out.size HB3.out.size)
end Go.Proofs.YtnadmdadcpemnaaGreat
