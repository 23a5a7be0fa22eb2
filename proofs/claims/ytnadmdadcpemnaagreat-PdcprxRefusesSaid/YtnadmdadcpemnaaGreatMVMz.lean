import Derived.Test.YtnadmdadcpemnaaGreatVLz
import Derived.Test.YtnadmdadcpemnaaGreatMTBz
import Derived.OrdersHeld
import Derived.Laws.EntriesVeiled
namespace Go.Proofs.YtnadmdadcpemnaaGreat
open Go.RowKit
set_option linter.unusedVariables false
attribute [local go_sem ↓] Go.wp_at_zero Go.wp_at_succ
private theorem zh {p:Prop} (h:p):Go.RowKit.Hid p:=h
theorem fill_fold (off:Nat):∀(l:List Value) (k:Nat) (cs:Array Value),(l.zipIdx k).foldl (fun cs (x:Value×Nat)=>cs.setIfInBounds (off+x.2) x.1) cs=tsAll cs (off+k) l
 | [],_,_=>rfl
 | v :: r,k,cs=>by
  rw[List.zipIdx_cons,List.foldl_cons,fill_fold off r (k+1),tsAll]
  rfl
theorem fill_two (z A B:Array Value) (n m:Nat) (hz:z.size=n+m) (hA:A.size=n) (hB:B.size=m) (place:Nat→Option (Nat×Nat)) (h0:place 0=some (0,n)) (h1:place 1=some (n,m)) :
  Instr.fill place z [(0,.agg A),(1,.agg B)] = some (A++B):=by
 have hf:∀(off:Nat) (C cs:Array Value),C.zipIdx.foldl (fun cs (x:Value×Nat)=>cs.setIfInBounds (off+x.2) x.1) cs=tsAll cs off C.toList:=fun off C cs=>by
  rw[←Array.foldl_toList,Array.toList_zipIdx,fill_fold off C.toList 0 cs,Nat.add_zero]
 have e1:(Value.agg A).cells=A:=rfl
 have e2:(Value.agg B).cells=B:=rfl
 simp only[Instr.fill,h0,h1,e1,e2]
 rw[if_neg (by simp[hA,hz]),if_neg]
 ·congr 1
  have g1:=hf 0 A z
  have g2:=hf n B (tsAll z 0 A.toList)
  rw[show(A.zipIdx.foldl (fun cs (x:Value×Nat)=>cs.setIfInBounds (0+x.2) x.1) z)=tsAll z 0 A.toList from g1]
  refine g2.trans ?_
  apply Array.ext_getElem?
  intro j
  rcases Nat.lt_or_ge j n with h | h
  ·rw[tsAll_out _ _ _ _ (.inl h),Array.getElem?_append_left (by omega)]
   have:=tsAll_in A.toList 0 z j (by rw[Array.length_toList];omega) (by omega)
   rw[Nat.zero_add]at this
   rw[this,Array.getElem?_toList]
  ·rcases Nat.lt_or_ge j (n+m)with h2 | h2
   ·have:=tsAll_in B.toList n (tsAll z 0 A.toList) (j-n) (by rw[Array.length_toList];omega) (by rw[tsAll_size];omega)
    rw[show n+(j-n)=j by omega]at this
    rw[this,Array.getElem?_toList,Array.getElem?_append_right (by omega),hA]
   ·rw[Array.getElem?_eq_none (by rw[tsAll_size,tsAll_size];omega),Array.getElem?_eq_none (by rw[Array.size_append];omega)]
 ·have:=hf 0 A z
  rw[show(A.zipIdx.foldl (fun cs (x:Value×Nat)=>cs.setIfInBounds (0+x.2) x.1) z)=tsAll z 0 A.toList from this,tsAll_size]
  simp[hB,hz]
theorem cipBuild (A B:Array Value) (hA:A.size=512) (hB:B.size=176) (w:World):(Instr.build 217 #[(0,.agg A),(1,.agg B)]).run Tryz.prog w=.ok (.agg (A++B)) w:=by
 refine run_build w _ _ _ ?_
 have hz:(Tryz.prog.info? 217).bind (fun i=>i.zero.map (·.cells.size))=some 688:=by kernel_rfl
 have hp:∀d,Tryz.prog.underlying 217 = some d→∃fs,d=.struct fs∧fs.toList.mapM (fun f=>(Tryz.prog.info? f.type).map fun i=>(f.offset,i.size))=some [(0,512),(512,176)]:=by
  rw[Tryz.underlying217]
  intro d hd
  cases hd
  exact⟨_,rfl,by kernel_rfl⟩
 cases hi:Tryz.prog.info? 217 with
 | none=>rw[hi]at hz;cases hz
 | some it=>
  rw[hi]at hz
  cases hu:Tryz.prog.underlying 217 with
  | none=>rw[Tryz.underlying217]at hu;cases hu
  | some d=>
   obtain⟨fs,rfl,hm⟩:=hp d hu
   cases hzz:it.zero with
   | none=>simp[hzz]at hz
   | some z=>
    simp only[Option.bind_some,hzz,Option.map_some,Option.some.injEq]at hz
    unfold Program.built
    simp only[hi,hu,hzz,hm]
    exact fill_two _ A B 512 176 hz hA hB _ rfl rfl
def NewC (key:Nat→Nat) (w:World) (e:Ending) (w':World):Prop:=∃g,e=.returned (.pointer (some ⟨g,0,none⟩))∧CipM w' g key∧w.heap.size≤g∧Below w.heap.size w w'
set_option maxRecDepth 100000 in
set_option maxHeartbeats 1600000 in
theorem anew_ok (key:Nat→Nat) (hk:B16 key) (w:World):Calls Tryz.prog 123 #[.agg (b16 key)] w (NewC key w):=by
 have HSU:=zh (fun V=>substitution_ok V)
 have HSC:=zh (fun V=>schedule_ok sbx isb key (boxK_lt 255) hk V)
 have HZ:=zeroBoxes
 obtain⟨BX,hBX⟩:∃BX,BX=boxArr sbx isb:=⟨_,rfl⟩
 obtain⟨ZX,hZX⟩:∃ZX,ZX=boxArr (fun _=>0) (fun _=>0):=⟨_,rfl⟩
 obtain⟨KY,hKY⟩:∃KY,KY=b16 key:=⟨_,rfl⟩
 obtain⟨KS,hKS⟩:∃KS,KS=keyArr (sched sbx key) 176:=⟨_,rfl⟩
 have hBS:BX.size=512:=by rw[hBX];exact boxArr_size _ _
 have hKSS:KS.size=176:=by rw[hKS];exact keyArr_size _ _
 have HSB:Hid ((Tryz.prog.info? 211).map (·.size)=some BX.size):=zh (by rw[hBS];kernel_rfl)
 have HSBL:Hid ((Tryz.prog.info? 211).map (·.size)=some BX.toList.length):=zh (by rw[Array.length_toList];exact HSB.out)
 have HZB:Hid (ZX.size=BX.size):=zh (by rw[hZX,hBX,boxArr_size,boxArr_size])
 have HOB:Hid (BX.all (·.oneCell')=true):=zh (by rw[hBX];exact boxArr_one _ _)
 have HSKL:Hid ((Tryz.prog.info? 23).map (·.size)=some KY.toList.length):=zh (by rw[Array.length_toList,hKY,b16_size];kernel_rfl)
 have HCB:=zh (fun V=>cipBuild BX KS hBS hKSS V)
 have HCI:Hid (∀V g,Blk V g 217 (BX++KS)→CipM V g key):=zh (fun V g h=>by rw[hBX,hKS]at h;exact h)
 rw[←hBX]at HSU HSC
 rw[←hZX]at HZ
 rw[←hKY]at HSC
 rw[←hKS]at HSC
 rw[←hKY]
 clear hBX hZX hKY hKS hBS hKSS hk
 go_enter Tryz.func123,Tryz.ntmps123
 obtain⟨kb,hkb⟩:∃kb,kb=w.heap.size:=⟨_,rfl⟩
 go_upto_region 1 with (fail)
 refine wp_let (fun V=>Blk V kb 23 KY∧Below w.heap.size w V∧V.heap.size=kb+1) ⟨by rw[hkb];exact Blk.new _ _ _,(Below.refl _ _).alloc (Nat.le_refl _) _,by rw[hkb];simp⟩ ?_
 rintro W1 ⟨b1,b2,b3⟩
 have B1:=zh b1
 have B2:=zh b2
 have HKB:=zh (show w.heap.size≤kb∧kb < W1.heap.size by omega)
 rw[←hkb]
 clear b1 b2 b3 hkb
 go_upto_region 2 with (first
  | (go_at_call 143;refine(HSU.out _).mono ?_;rintro e w2 ⟨rfl,hb2⟩;have C1:=zh (B1.out.below hb2 B1.out.lt);have C2:=zh (B2.out.trans (hb2.mono B2.out.size));have C3:=zh (show kb < w2.heap.size by have:=C1.out.lt;omega);clear hb2)
  | (refine wpList_store_row rfl _ _ _ rfl w2.heap.size BX rfl rfl 211 ZX (Blk.new w2 _ _) HSB.out HZB.out HOB.out ?_))
 obtain⟨sb,hsb⟩:∃sb,sb=w2.heap.size:=⟨_,rfl⟩
 refine wp_let (fun V=>Blk V kb 23 KY∧Blk V sb 211 BX∧Below w.heap.size w V) ⟨(setRow_other _ _ _ _ (by have:=C3.out;omega)).trans (C1.out.alloc _),by rw[hsb];exact setRow_heap _ _ ZX BX 211 (0,0) (Blk.new _ _ _),belowRow (C2.out.alloc C2.out.size _) C2.out.size _⟩ ?_
 rintro W3 ⟨b1,b2,b3⟩
 have D1:=zh b1
 have D2:=zh b2
 have D3:=zh b3
 rw[←hsb]
 clear b1 b2 b3 hsb B1 B2 C1 C2 C3 HZ
 have hu:=Tryz.underlying211
 have huk:=Tryz.underlying23
 have hi1:=HSBL.out
 have hi2:=HSKL.out
 have rS:∀V,Below W3.heap.size W3 V→V.rangeAt sb 0 BX.toList:=fun V hV j v hv=>by
  rw[(D2.out.below hV D2.out.lt).cell,Nat.zero_add,←Array.getElem?_toList];exact hv
 have rK:∀V,Below W3.heap.size W3 V→V.rangeAt kb 0 KY.toList:=fun V hV j v hv=>by
  rw[(D1.out.below hV D1.out.lt).cell,Nat.zero_add,←Array.getElem?_toList];exact hv
 refine wp_region_held_drew (S:=fun w'=>Below W3.heap.size W3 w') (by kernel_rfl) (Below.refl _ _).drew (fun hHeld=>?_)
 refine' wpAnyH_take (i:=0) (oi:=⟨some 5,_,_,_,_,_⟩) (v:=_) rfl (by kernel_rfl) (by kernel_rfl) (by kernel_rfl) (fun _ _ _ h=>h) (yieldsIf_load_mid (by rfl) _ _ rfl sb 0 rfl BX.toList _ (fun w h=>(fun w h=>rS w h) w h) hu rfl hi1) (by assumption) ?_
 try simp only[Act.put,List.setIfInBounds_toArray,List.set_cons_zero,List.set_cons_succ]
 refine' wpAnyH_take (i:=1) (oi:=⟨some 6,_,_,_,_,_⟩) (v:=_) rfl (by kernel_rfl) (by kernel_rfl) (by kernel_rfl) (fun _ _ _ h=>h) (yieldsIf_load_mid (by rfl) _ _ rfl sb 0 rfl BX.toList _ (fun w h=>(fun w h=>rS w h) w h) hu rfl hi1) (by assumption) ?_
 try simp only[Act.put,List.setIfInBounds_toArray,List.set_cons_zero,List.set_cons_succ]
 refine' wpAnyH_take (i:=2) (oi:=⟨some 7,_,_,_,_,_⟩) (v:=_) rfl (by kernel_rfl) (by kernel_rfl) (by kernel_rfl) (fun _ _ _ h=>h) (yieldsIf_load_mid (by rfl) _ _ rfl kb 0 rfl KY.toList _ (fun w h=>(fun w h=>rK w h) w h) huk rfl hi2) (by assumption) ?_
 try simp only[Act.put,List.setIfInBounds_toArray,List.set_cons_zero,List.set_cons_succ]
 refine wpAnyH_ready (rs:=[3]) (by kernel_rfl) (by simp) ?_
 refine AllReadyH.cons (o:=⟨some 8,_,_,_,_,_⟩) rfl (fun K hK=>?_) AllReadyH.nil
 rw[if_pos (by rfl)]
 go_simp
 go_at_call 144
 refine(HSC.out _).mono ?_
 rintro e w4 ⟨rfl,hb4⟩
 have E4:=zh (show Below W3.heap.size W3 w4 from (Below.refl _ W3).drew.trans (hb4.mono (by simp)))
 clear hb4
 refine hK.out _ _ E4.out (fun hHeld=>?_)
 clear hK K
 try simp only[Act.put,List.setIfInBounds_toArray,List.set_cons_zero,List.set_cons_succ]
 refine wpAnyH_take (i:=4) (oi:=⟨some 9,_,_,_,_,_⟩) (v:=.agg (BX++KS)) rfl (by kernel_rfl) (by kernel_rfl) (by kernel_rfl) (fun _ _ _ h=>h) (Or.inl ⟨by rfl,fun W hW=>(by have hcb:=HCB.out W;simp[execOp,Act.eval,hcb])⟩) (by assumption) ?_
 try simp only[Act.put,List.setIfInBounds_toArray,List.set_cons_zero,List.set_cons_succ]
 refine wpAnyH_ready (rs:=[5]) (by kernel_rfl) (by simp) ?_
 refine AllReadyH.cons (o:=⟨some 10,_,_,_,_,_⟩) rfl (fun K hK=>?_) AllReadyH.nil
 rw[if_pos (by rfl)]
 go_simp
 refine hK.out _ _ (E4.out.alloc E4.out.size _) (fun hHeld=>?_)
 clear hK K
 try simp only[Act.put,List.setIfInBounds_toArray,List.set_cons_zero,List.set_cons_succ]
 refine wpAnyH_take (i:=6) (oi:=⟨some 2,_,_,_,_,_⟩) (v:=.pointer (some ⟨w4.heap.size,0,none⟩)) rfl (by kernel_rfl) (by kernel_rfl) (by kernel_rfl) (fun _ _ _ h=>h) (Or.inl ⟨by rfl,fun W hW=>(by rfl)⟩) (by assumption) ?_
 try simp only[Act.put,List.setIfInBounds_toArray,List.set_cons_zero,List.set_cons_succ]
 refine wpAnyH_done (by kernel_rfl) ?_ _
 go_wp2
 go_ret
 exact⟨_,rfl,HCI.out _ _ (Blk.new _ _ _),Nat.le_trans D3.out.size E4.out.size,(D3.out.trans (E4.out.mono D3.out.size)).alloc (Nat.le_trans D3.out.size E4.out.size) _⟩
theorem aown_ok (g:Nat) (key:Nat→Nat) (w:World) (h:CipM w g key):Calls Tryz.prog 145 #[.pointer (some ⟨g,0,none⟩)] w fun e w'=>e=.returned (.pointer (some ⟨g,0,none⟩))∧w=w':=by
 have c0:w.cell? ⟨g,0,none⟩=some (.int .u8 99):=(h.box (x:=0) (by decide)).trans (by rw[sbx_zero];rfl)
 clear h
 go_enter Tryz.func145,Tryz.ntmps145
 go_wp2
 go_ret
 exact⟨rfl,rfl⟩
end Go.Proofs.YtnadmdadcpemnaaGreat
namespace Go.Proofs.YtnadmdadcpemnaaGreat
open Go.RowKit
set_option linter.unusedVariables false
attribute [local go_sem ↓] Go.wp_at_zero Go.wp_at_succ
def fnArr:Array Value:=#[.func (.func 147) #[] #[],.func (.func 148) #[] #[],.func (.func 149) #[] #[],.func (.func 146) #[] #[]]
def stepK (key:Nat→Nat) (n:Nat) (b:Nat→Nat) (k:Nat):Nat→Nat:=if k=0 then b else if k=1 then sSub b else if k=2 then sShift (sSub b) else if k=3 then sMix n (sShift (sSub b)) else sAdd (sched sbx key) n (sMix n (sShift (sSub b)))
theorem stepK_lt {key b:Nat→Nat} {n:Nat} (hk:B16 key) (hb:B16 b) (k:Nat):B16 (stepK key n b k):=by
 unfold stepK
 split
 ·exact hb
 split
 ·exact sSub_lt b
 split
 ·exact sShift_lt (sSub_lt b)
 split
 ·exact sMix_lt n (sShift_lt (sSub_lt b))
 ·exact sAdd_lt n (fun i hi=>sched_lt (boxK_lt 255) hk n i hi) (sMix_lt n (sShift_lt (sSub_lt b)))
theorem idx_fn0 (w:World):(Instr.index 221 (.agg fnArr) (.int .i64 0)).run Tryz.prog w=.ok (.func (.func 147) #[] #[]) w:=by kernel_rfl
theorem idx_fn1 (w:World):(Instr.index 221 (.agg fnArr) (.int .i64 1)).run Tryz.prog w=.ok (.func (.func 148) #[] #[]) w:=by kernel_rfl
theorem idx_fn2 (w:World):(Instr.index 221 (.agg fnArr) (.int .i64 2)).run Tryz.prog w=.ok (.func (.func 149) #[] #[]) w:=by kernel_rfl
theorem idx_fn3 (w:World):(Instr.index 221 (.agg fnArr) (.int .i64 3)).run Tryz.prog w=.ok (.func (.func 146) #[] #[]) w:=by kernel_rfl
theorem sizeFns:(Tryz.prog.info? 221).map (·.size)=some fnArr.size:=by kernel_rfl
set_option maxRecDepth 100000 in
set_option maxHeartbeats 3200000 in
theorem encrypt_ok (key b:Nat→Nat) (hk:B16 key) (hb:B16 b) (cg:Nat) (w:World) (h:CipM w cg key) :
  Calls Tryz.prog 125 #[.pointer (some ⟨cg,0,none⟩),.agg (b16 b)] w fun e w'=>e=.returned (.agg (b16 (aesF key b)))∧Below w.heap.size w w':=by
 have HCI:=zh h
 have HSL:=zh (fun n (hn:B16 (sRounds (sched sbx key) b n)) k=>stepK_lt (n:=n+1) hk hn k)
 have HRL:=zh (fun n=>sRounds_lt (keys:=sched sbx key) (fun n i hi=>sched_lt (boxK_lt 255) hk n i hi) hb n)
 have HK:=zh hk
 have HAD:=zh (fun V (hV:CipM V cg key)=>add_ok b hb cg key hk 0 (by decide) V hV)
 have HSB:=zh (sizeBlock b)
 have HSK:Hid ((Tryz.prog.info? 23).map (·.size)=some (b16 b).size):=zh (by rw[b16_size];kernel_rfl)
 have HS16:Hid (∀c,(Tryz.prog.info? 23).map (·.size)=some (b16 c).size):=zh (fun c=>by rw[b16_size];kernel_rfl)
 obtain⟨ZB,hZB⟩:∃ZB:Array Value,ZB=#[.int .u8 0,.int .u8 0,.int .u8 0,.int .u8 0,.int .u8 0,.int .u8 0,.int .u8 0,.int .u8 0,.int .u8 0,.int .u8 0,.int .u8 0,.int .u8 0,.int .u8 0,.int .u8 0,.int .u8 0,.int .u8 0]:=⟨_,rfl⟩
 have HZS:Hid (∀c,ZB.size=(b16 c).size):=zh (fun c=>by rw[hZB,b16_size];rfl)
 have HZB:=zh hZB
 obtain⟨BA,hBA⟩:∃BA,BA=b16 b:=⟨_,rfl⟩
 obtain⟨E,hE⟩:∃E:(Nat→Nat)→Array Value,E=b16:=⟨_,rfl⟩
 have HEE:=zh hE
 have HF:=zh sizeFns
 obtain⟨FA,hFA⟩:∃FA,FA=fnArr:=⟨_,rfl⟩
 have ix0:=idx_fn0
 have ix1:=idx_fn1
 have ix2:=idx_fn2
 have ix3:=idx_fn3
 have HFA:=zh (hFA.trans (show fnArr=#[.func (.func 147) #[] #[],.func (.func 148) #[] #[],.func (.func 149) #[] #[],.func (.func 146) #[] #[]]from rfl))
 rw[←hFA]at ix0 ix1 ix2 ix3 HF
 have HBA:=zh hBA
 rw[←hBA]at HAD HSK
 rw[←hBA]
 clear hZB hBA hE hk hb h hFA
 go_enter Tryz.func125,Tryz.ntmps125
 go_upto_region 1 with (fail)
 obtain⟨p0,hp0⟩:∃p0,p0=w.heap.size:=⟨_,rfl⟩
 refine wp_let (fun V=>Blk V p0 23 BA∧Blk V (p0+1) 23 ZB∧CipM V cg key∧Below w.heap.size w V) ⟨by rw[hp0];exact(blk_atA _ _ _ _ rfl).alloc _,by rw[hp0,HZB.out];exact blk_atA _ _ _ _ (by simp),HCI.out.below (((Below.refl _ _).alloc (Nat.le_refl _) _).alloc (by simp) _),((Below.refl _ _).alloc (Nat.le_refl _) _).alloc (by simp) _⟩ ?_
 rintro W1 ⟨b1,b2,b3,b4⟩
 have B1:=zh b1
 have B2:=zh b2
 have B3:=zh b3
 have B4:=zh b4
 have HOW:=zh (aown_ok cg key W1 b3)
 have HP0:=zh hp0
 rw[←hp0]
 clear b1 b2 b3 b4 hp0 HCI
 go_upto_region 2 with (go_at_call 145;refine(HOW.out).mono ?_;rintro e w2 ⟨rfl,rfl⟩)
 have HA1:=zh (HAD.out W1 B3.out)
 obtain⟨S0,hS0⟩:∃S0,S0=b16 (sAdd (sched sbx key) 0 b):=⟨_,rfl⟩
 have HSZ0:Hid ((Tryz.prog.info? 213).map (·.size)=some S0.size):=zh (by rw[hS0];exact sizeBlock _)
 have HO0:Hid (S0.all (·.oneCell')=true):=zh (by rw[hS0];exact b16_one _)
 have HZ0:Hid (ZB.size=S0.size):=zh (by rw[hS0];exact HZS.out _)
 have HS0:=zh hS0
 rw[←hS0]at HA1
 clear hS0
 go_upto_region 3 with (first
  | (refine wpList_load_row rfl _ _ rfl p0 rfl 23 BA (0,0) _ B1.out Tryz.underlying23 rfl HSK.out ?_)
  | (go_at_call 146;refine(HA1.out).mono ?_;rintro e w4 ⟨rfl,hb4⟩;have C2:=zh (B2.out.below hb4 B2.out.lt);have C3:=zh (B3.out.below hb4);have C4:=zh (B4.out.trans (hb4.mono B4.out.size));clear hb4)
  | (refine wpList_store_row rfl _ _ _ rfl w4.heap.size S0 rfl rfl 213 ZB (by rw[HZB.out];exact Blk.new _ _ _) HSZ0.out HZ0.out HO0.out ?_))
 obtain⟨sb,hsb⟩:∃sb,sb=w4.heap.size:=⟨_,rfl⟩
 refine wp_let (fun V=>Blk V sb 213 S0∧Blk V (p0+1) 23 ZB∧CipM V cg key∧Below w.heap.size w V) ⟨by rw[hsb];exact setRow_heap _ _ ZB S0 213 (0,0) (by rw[HZB.out];exact Blk.new _ _ _),(setRow_other _ _ _ _ (by have:=C2.out.lt;omega)).trans (C2.out.alloc _),(setRow_other _ _ _ _ (by have:=Blk.lt C3.out;omega)).trans (Blk.alloc C3.out _),belowRow (C4.out.alloc C4.out.size _) C4.out.size _⟩ ?_
 rintro W5 ⟨b1,b2,b3,b4⟩
 have D1:=zh b1
 have D2:=zh b2
 have D3:=zh b3
 have D4:=zh b4
 have HSB0:=zh (show w.heap.size≤sb∧p0+1 < sb by have:=C4.out.size;have:=C2.out.lt;omega)
 rw[←hsb]
 clear b1 b2 b3 b4 hsb B1 B2 B3 B4 C2 C3 C4 HA1
 go_upto_region 4 with (fail)
 try rw[show(#[.func (.func 147) #[] #[],.func (.func 148) #[] #[],.func (.func 149) #[] #[],.func (.func 146) #[] #[]]:Array Value)=FA from HFA.out.symm]
 obtain⟨fb,hfb⟩:∃fb,fb=W5.heap.size:=⟨_,rfl⟩
 refine wp_let (fun V=>Blk V sb 213 S0∧Blk V (p0+1) 23 ZB∧CipM V cg key∧Blk V fb 221 FA∧Below w.heap.size w V) ⟨D1.out.alloc _,D2.out.alloc _,Blk.alloc D3.out _,by rw[hfb];exact Blk.new _ _ _,D4.out.alloc D4.out.size _⟩ ?_
 rintro W6 ⟨b1,b2,b3,b4,b5⟩
 have E1:=zh b1
 have E2:=zh b2
 have E3:=zh b3
 have E4:=zh b4
 have E5:=zh b5
 have HFB:=zh (show sb < fb by have:=D1.out.lt;omega)
 rw[←hfb]
 clear b1 b2 b3 b4 b5 hfb D1 D2 D3 D4
 go_wp2
 go_loopw [7] (fun v7 wr=>∃m n:Nat,m≤10∧n=m+1∧v7=.int .i64 n∧Blk wr sb 213 (E (sRounds (sched sbx key) b m))∧Blk wr (p0+1) 23 ZB∧CipM wr cg key∧Blk wr fb 221 FA∧Below w.heap.size w wr) (fun v7 _=>11-(intOf v7).toNat)
 case atStart=>exact⟨0,1,by omega,rfl,rfl,by rw[HEE.out];have:=E1.out;rw[HS0.out]at this;exact this,E2.out,E3.out,E4.out,E5.out⟩
 case round=>
  clear E1 E2 E3 E4 E5
  obtain⟨m,n,hm,hn,rfl,hB,hR,hC,hA,hb⟩:=hrel
  have HB:=zh hB
  have HR:=zh hR
  have HC:=zh hC
  have HA:=zh hA
  have HBW:=zh hb
  have HN:=zh hn
  clear hB hR hC hA hb hn
  by_cases hlt:m < 10
  ·have n10:(n:Int)≤10:=by have:=HN.out;omega
   have nn:n < 11:=by omega
   have n0:(0:Int)≤(n:Int):=by omega
   obtain⟨B,hBq⟩:∃B,B=sRounds (sched sbx key) b m:=⟨_,rfl⟩
   have HSn:Hid (sRounds (sched sbx key) b n=stepK key n B 4):=zh (by rw[HN.out,hBq];rfl)
   have HBL:Hid (∀k,B16 (stepK key n B k)):=zh (fun k=>by rw[hBq,HN.out];exact HSL.out m (HRL.out m) k)
   rw[←hBq]at HB
   clear hBq hm hlt
   go_wp2_with (refine wpList_load_row rfl _ _ rfl fb rfl 221 FA (0,0) _ HA.out Tryz.underlying221 rfl HF.out ?_)
   go_loopw [21] (fun v wr=>∃k:Nat,k≤4∧v=.int .i64 k∧Blk wr sb 213 (E (stepK key n B k))∧Blk wr (p0+1) 23 ZB∧CipM wr cg key∧Blk wr fb 221 FA∧Below w.heap.size w wr) (fun v _=>4-(intOf v).toNat)
   case atStart=>exact⟨0,by omega,rfl,HB.out,HR.out,HC.out,HA.out,HBW.out⟩
   case round=>
    clear HB HR HC HA HBW
    obtain⟨k,hk,rfl,hB,hR,hC,hA,hb⟩:=hrel
    have HB:=zh hB
    have HR:=zh hR
    have HC:=zh hC
    have HA:=zh hA
    have HBW:=zh hb
    clear hB hR hC hA hb
    by_cases hlt:k < 4
    ·have HX1:Hid ((Tryz.prog.info? 213).map (·.size)=some (E (stepK key n B k)).size):=zh (by rw[HEE.out];exact sizeBlock _)
     have HX2:Hid ((Tryz.prog.info? 213).map (·.size)=some (E (stepK key n B (k+1))).size):=zh (by rw[HEE.out];exact sizeBlock _)
     have HX3:Hid ((E (stepK key n B (k+1))).all (·.oneCell')=true):=zh (by rw[HEE.out];exact b16_one _)
     have HX4:Hid ((E (stepK key n B k)).size=(E (stepK key n B (k+1))).size):=zh (by rw[HEE.out,b16_size,b16_size])
     rcases (by omega:k=0∨k=1∨k=2∨k=3)with rfl | rfl | rfl | rfl
     ·have HST:Hid (Calls Tryz.prog 147 #[.pointer (some ⟨cg,0,none⟩),.agg (E (stepK key n B 0)),.int .i64 n] wr fun e w'=>e=.returned (.agg (E (stepK key n B 1)))∧Below wr.heap.size wr w'):=zh (by rw[HEE.out];exact sub_ok _ (HBL.out 0) cg key n wr HC.out)
      obtain⟨X,hX⟩:∃X,X=E (stepK key n B 0):=⟨_,rfl⟩
      obtain⟨Y,hY⟩:∃Y,Y=E (stepK key n B 1):=⟨_,rfl⟩
      have HY:=zh hY
      rw[←hX]at HX1 HX4 HB HST
      rw[←hY]at HX2 HX3 HX4 HST
      clear hX hY hlt hk
      go_wp2_with (first
       | (refine wpList_load_row rfl _ _ rfl sb rfl 213 X (0,0) _ HB.out Tryz.underlying213 rfl HX1.out ?_)
       | (go_at_call 147;refine(HST.out).mono ?_;rintro e w4 ⟨rfl,hb4⟩;have C1:=zh (HB.out.below hb4 HB.out.lt);have C2:=zh (HR.out.below hb4 HR.out.lt);have C3:=zh (HC.out.below hb4);have C4:=zh (HA.out.below hb4 HA.out.lt);have C5:=zh (HBW.out.trans (hb4.mono HBW.out.size));clear hb4)
       | (refine wpList_store_row rfl _ _ _ rfl sb Y rfl rfl 213 X C1.out HX2.out HX4.out HX3.out ?_))
      go_roundw
      case rel=>exact⟨1,by omega,rfl,by rw[←HY.out];exact setRow_heap _ _ X Y 213 (0,0) C1.out,(setRow_other _ _ _ _ (by have:=HSB0.out;omega)).trans C2.out,(setRow_other _ _ _ _ (fun e=>cells_ne C1.out C3.out (by decide) e.symm)).trans C3.out,(setRow_other _ _ _ _ (by have:=HFB.out;omega)).trans C4.out,belowRow C5.out (by have:=HSB0.out;omega) _⟩
      case measure=>simp[intOf]
     ·have HST:Hid (Calls Tryz.prog 148 #[.pointer (some ⟨cg,0,none⟩),.agg (E (stepK key n B 1)),.int .i64 n] wr fun e w'=>e=.returned (.agg (E (stepK key n B 2)))∧Below wr.heap.size wr w'):=zh (by rw[HEE.out];exact shift_ok _ (HBL.out 1) _ n wr)
      obtain⟨X,hX⟩:∃X,X=E (stepK key n B 1):=⟨_,rfl⟩
      obtain⟨Y,hY⟩:∃Y,Y=E (stepK key n B 2):=⟨_,rfl⟩
      have HY:=zh hY
      rw[←hX]at HX1 HX4 HB HST
      rw[←hY]at HX2 HX3 HX4 HST
      clear hX hY hlt hk
      go_wp2_with (first
       | (refine wpList_load_row rfl _ _ rfl sb rfl 213 X (0,0) _ HB.out Tryz.underlying213 rfl HX1.out ?_)
       | (go_at_call 148;refine(HST.out).mono ?_;rintro e w4 ⟨rfl,hb4⟩;have C1:=zh (HB.out.below hb4 HB.out.lt);have C2:=zh (HR.out.below hb4 HR.out.lt);have C3:=zh (HC.out.below hb4);have C4:=zh (HA.out.below hb4 HA.out.lt);have C5:=zh (HBW.out.trans (hb4.mono HBW.out.size));clear hb4)
       | (refine wpList_store_row rfl _ _ _ rfl sb Y rfl rfl 213 X C1.out HX2.out HX4.out HX3.out ?_))
      go_roundw
      case rel=>exact⟨2,by omega,rfl,by rw[←HY.out];exact setRow_heap _ _ X Y 213 (0,0) C1.out,(setRow_other _ _ _ _ (by have:=HSB0.out;omega)).trans C2.out,(setRow_other _ _ _ _ (fun e=>cells_ne C1.out C3.out (by decide) e.symm)).trans C3.out,(setRow_other _ _ _ _ (by have:=HFB.out;omega)).trans C4.out,belowRow C5.out (by have:=HSB0.out;omega) _⟩
      case measure=>simp[intOf]
     ·have HST:Hid (Calls Tryz.prog 149 #[.pointer (some ⟨cg,0,none⟩),.agg (E (stepK key n B 2)),.int .i64 n] wr fun e w'=>e=.returned (.agg (E (stepK key n B 3)))∧Below wr.heap.size wr w'):=zh (by rw[HEE.out];exact mix_ok _ (HBL.out 2) _ n wr)
      obtain⟨X,hX⟩:∃X,X=E (stepK key n B 2):=⟨_,rfl⟩
      obtain⟨Y,hY⟩:∃Y,Y=E (stepK key n B 3):=⟨_,rfl⟩
      have HY:=zh hY
      rw[←hX]at HX1 HX4 HB HST
      rw[←hY]at HX2 HX3 HX4 HST
      clear hX hY hlt hk
      go_wp2_with (first
       | (refine wpList_load_row rfl _ _ rfl sb rfl 213 X (0,0) _ HB.out Tryz.underlying213 rfl HX1.out ?_)
       | (go_at_call 149;refine(HST.out).mono ?_;rintro e w4 ⟨rfl,hb4⟩;have C1:=zh (HB.out.below hb4 HB.out.lt);have C2:=zh (HR.out.below hb4 HR.out.lt);have C3:=zh (HC.out.below hb4);have C4:=zh (HA.out.below hb4 HA.out.lt);have C5:=zh (HBW.out.trans (hb4.mono HBW.out.size));clear hb4)
       | (refine wpList_store_row rfl _ _ _ rfl sb Y rfl rfl 213 X C1.out HX2.out HX4.out HX3.out ?_))
      go_roundw
      case rel=>exact⟨3,by omega,rfl,by rw[←HY.out];exact setRow_heap _ _ X Y 213 (0,0) C1.out,(setRow_other _ _ _ _ (by have:=HSB0.out;omega)).trans C2.out,(setRow_other _ _ _ _ (fun e=>cells_ne C1.out C3.out (by decide) e.symm)).trans C3.out,(setRow_other _ _ _ _ (by have:=HFB.out;omega)).trans C4.out,belowRow C5.out (by have:=HSB0.out;omega) _⟩
      case measure=>simp[intOf]
     ·have HST:Hid (Calls Tryz.prog 146 #[.pointer (some ⟨cg,0,none⟩),.agg (E (stepK key n B 3)),.int .i64 n] wr fun e w'=>e=.returned (.agg (E (stepK key n B 4)))∧Below wr.heap.size wr w'):=zh (by rw[HEE.out];exact add_ok _ (HBL.out 3) cg key HK.out n nn wr HC.out)
      obtain⟨X,hX⟩:∃X,X=E (stepK key n B 3):=⟨_,rfl⟩
      obtain⟨Y,hY⟩:∃Y,Y=E (stepK key n B 4):=⟨_,rfl⟩
      have HY:=zh hY
      rw[←hX]at HX1 HX4 HB HST
      rw[←hY]at HX2 HX3 HX4 HST
      clear hX hY hlt hk
      go_wp2_with (first
       | (refine wpList_load_row rfl _ _ rfl sb rfl 213 X (0,0) _ HB.out Tryz.underlying213 rfl HX1.out ?_)
       | (go_at_call 146;refine(HST.out).mono ?_;rintro e w4 ⟨rfl,hb4⟩;have C1:=zh (HB.out.below hb4 HB.out.lt);have C2:=zh (HR.out.below hb4 HR.out.lt);have C3:=zh (HC.out.below hb4);have C4:=zh (HA.out.below hb4 HA.out.lt);have C5:=zh (HBW.out.trans (hb4.mono HBW.out.size));clear hb4)
       | (refine wpList_store_row rfl _ _ _ rfl sb Y rfl rfl 213 X C1.out HX2.out HX4.out HX3.out ?_))
      go_roundw
      case rel=>exact⟨4,by omega,rfl,by rw[←HY.out];exact setRow_heap _ _ X Y 213 (0,0) C1.out,(setRow_other _ _ _ _ (by have:=HSB0.out;omega)).trans C2.out,(setRow_other _ _ _ _ (fun e=>cells_ne C1.out C3.out (by decide) e.symm)).trans C3.out,(setRow_other _ _ _ _ (by have:=HFB.out;omega)).trans C4.out,belowRow C5.out (by have:=HSB0.out;omega) _⟩
      case measure=>simp[intOf]
    ·obtain rfl:k=4:=by omega
     have n1:¬(4:Int) < 4:=by omega
     rw[←HSn.out]at HB
     clear HSn HBL
     go_wp2
     go_roundw
     case rel=>exact⟨m+1,n+1,by have:=HN.out;omega,by have:=HN.out;omega,by go_num,by rw[←HN.out];exact HB.out,HR.out,HC.out,HA.out,HBW.out⟩
     case measure=>simp[intOf];omega
  ·obtain rfl:m=10:=by omega
   have hn:=HN.out
   subst hn
   obtain⟨R,hR⟩:∃R,R=E (sRounds (sched sbx key) b 10):=⟨_,rfl⟩
   have HRQ:Hid (b16 (aesF key b)=R):=zh (by rw[hR,HEE.out];rfl)
   have HX1:Hid ((Tryz.prog.info? 213).map (·.size)=some R.size):=zh (by rw[hR,HEE.out];exact sizeBlock _)
   have HX2:Hid ((Tryz.prog.info? 23).map (·.size)=some R.size):=zh (by rw[hR,HEE.out];exact HS16.out _)
   have HX3:Hid (R.all (·.oneCell')=true):=zh (by rw[hR,HEE.out];exact b16_one _)
   have HX4:Hid (ZB.size=R.size):=zh (by rw[hR,HEE.out];exact HZS.out _)
   rw[←hR]at HB
   clear hR hm hlt
   have n1:¬(11:Int)≤10:=by omega
   go_wp2_with (first
    | (refine wpList_load_row rfl _ _ rfl sb rfl 213 R (0,0) _ HB.out Tryz.underlying213 rfl HX1.out ?_)
    | (refine wpList_store_row rfl _ _ _ rfl (p0+1) R rfl rfl 23 ZB HR.out HX2.out HX4.out HX3.out ?_))
   refine bodyPost_ret (v:=.agg R) (results_cell_row (g:=p0+1) (t:=23) (fr:=(0,0)) Tryz.results125 _ _ R _ rfl (setRow_heap wr (p0+1) ZB R 23 (0,0) HR.out) Tryz.underlying23 rfl HX2.out) rfl ⟨by rw[HRQ.out],?_⟩
   exact belowRow HBW.out (by rw[HP0.out];omega) _
end Go.Proofs.YtnadmdadcpemnaaGreat
