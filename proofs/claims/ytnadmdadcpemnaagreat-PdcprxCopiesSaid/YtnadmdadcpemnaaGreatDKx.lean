import Derived.Test.YtnadmdadcpemnaaGreatIJx
namespace Go.Proofs.YtnadmdadcpemnaaGreat
open Go.RowKit Go.Sort
set_option linter.unusedVariables false
attribute [local go_sem ↓] Go.wp_at_zero Go.wp_at_succ
theorem sorted_keys {l:List SE} (hr:Rising l) {d':Array Int} {ks:List Int} (hp:ks.Perm (keysE l)) (h:d'.toList.Perm ks) (hs:d'.toList.Pairwise (·≤·)):d'.toList=keysE l:=
 List.Perm.eq_of_pairwise (le:=fun a b=>a≤b) (fun a b _ _ h1 h2=>Int.le_antisymm h1 h2) hs (List.pairwise_map.2 (hr.imp fun h=>by omega)) (h.trans hp)
theorem keys_nodup {l:List SE} (hr:Rising l) {ks:List Int} (hp:ks.Perm (keysE l)):ks.Nodup:=
 hp.nodup_iff.2 (List.pairwise_map.2 (hr.imp fun h=>by omega))
set_option maxRecDepth 1000000 in
set_option maxHeartbeats 4000000 in
theorem updq_small (A:Option Addr) (b c n:Nat) (d:Array Int) (m:Int) (hA:0 < n→A=some ⟨b,0,none⟩) (hd:d.size=n) (hn:n≤12) (w:World) (h:0 < n→UArr w b n d) :
  Calls Tryz.prog 93 #[.slice A n c,.int .i64 0,.int .i64 n,.int .i64 m] w fun e w'=>e=.returned (.tuple #[])∧(0 < n→UArr w' b n (Sort.insertionSort ltInt d 0 n))∧KeepF (fun k=>0 < n∧k=b) w w':=by
 have HI:=Lib.hid (uins_ok A b c n d hA hd (by omega) w h)
 have t1:(n:Int)≤12:=by omega
 clear h hA hd hn
 go_enter Tryz.func93,Tryz.ntmps93
 go_wp2
 go_loopw [1,2,3] (fun v1 v2 v3 wr=>v1=.int .i64 0∧v2=.int .i64 n∧wr=w) (fun _ _ _ _=>0)
 case atStart=>exact⟨rfl,rfl,rfl⟩
 case round=>
  obtain⟨rfl,rfl,rfl⟩:=hrel
  go_wp2_with (go_at_call 110;refine(HI.out).mono ?_;rintro e w1 ⟨rfl,hU,hK⟩;have HU:=Lib.hid hU;have HK:=Lib.hid hK;clear hU hK)
  exact bodyPost_ret (v:=.tuple #[]) (by simp[results,Tryz.results93,go_sem]) rfl ⟨rfl,HU.out,HK.out⟩
def SortO (b n:Nat) (d:Array Int) (w:World) (e:Ending) (w':World):Prop:=e=.returned (.tuple #[])∧∃d':Array Int,(d'.size=n∧d'.toList.Perm d.toList∧d'.toList.Pairwise (·≤·))∧(0 < n→UArr w' b n d')∧KeepF (fun k=>0 < n∧k=b) w w'
theorem updq_any (A:Option Addr) (b c n:Nat) (d:Array Int) (m:Int) (hA:0 < n→A=some ⟨b,0,none⟩) (hd:d.size=n) (hn:n≤250) (hnd:d.toList.Nodup) (w:World) (h:0 < n→UArr w b n d) :
  Calls Tryz.prog 93 #[.slice A n c,.int .i64 0,.int .i64 n,.int .i64 m] w (SortO b n d w):=by
 rcases Nat.eq_zero_or_pos n with h0 | h0
 ·refine(updq_small A b c n d m hA hd (by omega) w h).mono ?_
  rintro e w' ⟨rfl,hU,hK⟩
  have hd0:d=#[]:=Array.eq_empty_of_size_eq_zero (by omega)
  exact⟨rfl,d,⟨hd,List.Perm.refl _,by rw[hd0];exact List.Pairwise.nil⟩,fun h=>absurd h (by omega),hK⟩
 ·obtain rfl:=hA h0
  refine(pdq_ok b c n hn (n+1) 0 n m d w (by omega) hd (Nat.zero_le _) (Nat.le_refl _) hnd (Or.inl rfl) (h h0)).mono ?_
  rintro e w' ⟨rfl,d',hs,hp,hU,hK⟩
  exact⟨rfl,d',sorted_list hd hp hs,fun _=>hU,hK.mono (fun k e=>⟨h0,e⟩)⟩
theorem usort_any (A:Option Addr) (b c n:Nat) (d:Array Int) (hA:0 < n→A=some ⟨b,0,none⟩) (hd:d.size=n) (hn:n≤250) (hnd:d.toList.Nodup) (w:World) (h:0 < n→UArr w b n d) :
  Calls Tryz.prog 71 #[.slice A n c] w (SortO b n d w):=by
 have HI:=Lib.hid (fun m=>updq_any A b c n d m hA hd hn hnd w h)
 have HB:=Lib.hid (fun V=>blen_ok n (by omega) V)
 have t0:(0:Int)≤(n:Int):=by omega
 have t1:IntKind.u64.wrap (n:Int)=(n:Int):=by rw[IntKind.wrap_u64];omega
 clear h hA hd hn hnd
 go_enter Tryz.func71,Tryz.ntmps71
 go_wp2_with (first
  | (go_at_call 94;refine(HB.out _).mono ?_;rintro e w1 ⟨rfl,rfl⟩)
  | (go_at_call 93;refine(HI.out _).mono ?_;rintro e w1 ⟨rfl,d',hq,hU,hK⟩;have HQ:=Lib.hid hq;have HU:=Lib.hid hU;have HK:=Lib.hid hK;clear hq hU hK))
 go_end0
 exact⟨rfl,d',HQ.out,HU.out,HK.out⟩
def KeysO (l:List SE) (w:World) (e:Ending) (w':World):Prop:=∃A c,e=.returned (.slice A l.length c)∧Row w' w'.heap.size A l.length (fun j=>.int .u64 ((keysE l).getD j 0))∧Fresh w.heap.size A∧Below w.heap.size w w'
set_option maxRecDepth 100000 in
set_option maxHeartbeats 1600000 in
theorem usorted_ok (sb:Nat) (l:List SE) (bx:Nat) (w:World) (hS:SM w sb l) (hB:Blk w bx 78 #[.map (some sb)]) (hr:Rising l) (hl:l.length≤250) :
  Calls Tryz.prog 44 #[.func (.func 72) #[] #[.pointer (some ⟨bx,0,none⟩)]] w (KeysO l w):=by
 have HA:=Lib.hid (appendseq_ok sb l bx w hS hB hr (by omega))
 have HC:Hid (Calls Tryz.prog 70 #[.func (.func 72) #[] #[.pointer (some ⟨bx,0,none⟩)]] w fun e w'=>∃(ks:List Int) (v:Value),e=.returned v∧ks.Perm (keysE l)∧w'.ownsRow w.heap.size 43 1 v ks.length (ks.map (Value.int .u64))∧Below w.heap.size w w'):=Lib.hid (by
  clear hS hB hr hl
  go_enter Tryz.func70,Tryz.ntmps70
  go_wp2_with (go_at_call 92;refine(HA.out).mono ?_;rintro e w1 ⟨ks,v,rfl,h1,h2,h3⟩;have H1:=Lib.hid h1;have H2:=Lib.hid h2;have H3:=Lib.hid h3;clear h1 h2 h3)
  go_ret
  exact⟨ks,v,rfl,H1.out,H2.out,H3.out⟩)
 have HR:=Lib.hid hr
 have HL:=Lib.hid hl
 clear hS hB hr hl HA
 go_enter Tryz.func44,Tryz.ntmps44
 go_upto_region 2 with (go_at_call 70;refine(HC.out).mono ?_;rintro e w1 ⟨ks,v,rfl,h1,h2,h3⟩;have H1:=Lib.hid h1;have H2:=Lib.hid h2;have H3:=Lib.hid h3;clear h1 h2 h3)
 have hlen:ks.length=l.length:=by rw[H1.out.length_eq];exact List.length_map _
 obtain⟨A,c,b,rfl,hA,hU,hge,hfr⟩:∃A c b,v=.slice A ks.length c∧(0 < ks.length→A=some ⟨b,0,none⟩)∧(0 < ks.length→UArr w1 b ks.length ks.toArray)∧(0 < ks.length→w.heap.size≤b)∧Fresh w.heap.size A:=by
  rcases H2.out.2 with ⟨rfl,h0⟩ | ⟨gb,cap,cur,rfl,hb,hh,hc1,hc2,hc3,hc4⟩
  ·exact⟨none,0,0,by rw[h0],fun h=>absurd h (by omega),fun h=>absurd h (by omega),fun h=>absurd h (by omega),fresh_none _⟩
  ·refine⟨_,cap,gb,rfl,fun _=>rfl,fun _=>⟨cur,hh,?_,fun t ht=>?_⟩,fun _=>hb,fresh_some hb⟩
   ·rw[hc3];omega
   ·have hks:cur.toList.take (ks.length*1)=ks.map (Value.int .u64):=hc4
    have h1:(cur.toList.take (ks.length*1))[t]? = some (.int .u64 (ks.toArray[t]!)):=by
     rw[hks,List.getElem?_map,List.getElem?_eq_getElem ht]
     simp[ht]
    rw[List.getElem?_take,if_pos (by omega),Array.getElem?_toList]at h1
    exact h1
 have HSO:=Lib.hid (usort_any A b c ks.length ks.toArray hA (by simp) (by rw[hlen];exact HL.out) (by simpa using keys_nodup HR.out H1.out) w1 hU)
 have HLN:=Lib.hid hlen
 have HAA:=Lib.hid hA
 have HGE:=Lib.hid hge
 have HFR:=Lib.hid hfr
 clear hlen hA hU hge hfr H2
 go_wp2_with (go_at_call 71;refine(HSO.out).mono ?_;rintro e w2 ⟨rfl,d',hq,hU,hK⟩;have HQ:=Lib.hid hq;have HU:=Lib.hid hU;have HK:=Lib.hid hK;clear hq hU hK)
 go_ret
 have hln:=HLN.out
 have HSK:=Lib.hid (sorted_keys HR.out H1.out (by simpa using HQ.out.2.1) HQ.out.2.2)
 refine⟨A,c,by rw[hln];rfl,?_,?_,KeepF.below H3.out HK.out (fun k ⟨h0,hk⟩=>by rw[hk];exact HGE.out h0) H3.out.size⟩
 ·rw[←hln]
  intro hn0
  have hU:=HU.out hn0
  obtain⟨cs,hB,hcs,hcc⟩:=hU
  refine⟨b,0,HAA.out hn0,Blk.lt hB,fun j hj=>?_⟩
  rw[Nat.zero_add,hB.cell j,hcc j hj,←HSK.out]
  have hsz:d'.size=ks.length:=HQ.out.1
  show _=some (Value.int .u64 (d'.toList.getD j 0))
  rw[getElem!_pos _ j (by omega),List.getD_eq_getElem?_getD,Array.getElem?_toList,Array.getElem?_eq_getElem (by omega),Option.getD_some]
 ·exact HFR.out
end Go.Proofs.YtnadmdadcpemnaaGreat
