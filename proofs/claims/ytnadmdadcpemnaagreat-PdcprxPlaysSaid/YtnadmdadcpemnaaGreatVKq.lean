import Derived.Test.YtnadmdadcpemnaaGreatVJq
set_option maxRecDepth 100000
set_option maxHeartbeats 1600000
namespace Go.Proofs.YtnadmdadcpemnaaGreat
set_option linter.unusedVariables false
set_option linter.unusedSimpArgs false
open Go.RowKit
attribute [local go_sem ↓] Go.wp_at_zero Go.wp_at_succ
def cipArr (key:Nat->Nat):Array Value:=boxArr sbx isb++keyArr (sched sbx key) 176
theorem cipArr_box (key:Nat->Nat) {x:Nat} (hx:x < 256):(cipArr key)[x]? = some (.int .u8 (sbx x:Nat)):=by
 unfold cipArr;rw[Array.getElem?_append_left (by rw[boxArr_size];omega),boxArr_at _ _ (by omega),if_pos hx]
theorem cipArr_key (key:Nat->Nat) {n i:Nat} (hn:n < 11) (hi:i < 16):(cipArr key)[512+n*16+i]? = some (.int .u8 (sched sbx key n i:Nat)):=by
 unfold cipArr;rw[Array.getElem?_append_right (by rw[boxArr_size];omega),boxArr_size,show 512+n*16+i-512=n*16+i by omega,keyArr_at _ _ (by omega),if_pos (by omega),show(n*16+i) / 16=n by omega,show(n*16+i) % 16=i by omega]
def CipM (w:World) (g:Nat) (key:Nat->Nat):Prop:=Blk w g 217 (cipArr key)
theorem CipM.below {w w':World} {g:Nat} {key:Nat->Nat} (h:CipM w g key) (hb:Below w.heap.size w w'):CipM w' g key:=Blk.below h hb (Blk.lt h)
theorem CipM.box {w:World} {g:Nat} {key:Nat->Nat} (h:CipM w g key) {x:Nat} (hx:x < 256):w.cell? ⟨g,x,none⟩=some (.int .u8 (sbx x:Nat)):=(Blk.cell h x).trans (cipArr_box key hx)
theorem CipM.key {w:World} {g:Nat} {key:Nat->Nat} (h:CipM w g key) {n i:Nat} (hn:n < 11) (hi:i < 16):w.cell? ⟨g,512+n*16+i,none⟩=some (.int .u8 (sched sbx key n i:Nat)):=(Blk.cell h _).trans (cipArr_key key hn hi)
theorem sub_ok (b:Nat->Nat) (hb:B16 b) (cg:Nat) (key:Nat->Nat) (n:Int) (w:World) (h:CipM w cg key) :
  Calls Tryz.prog 147 #[.pointer (some ⟨cg,0,none⟩),.agg (b16 b),.int .i64 n] w fun e w'=>e=.returned (.agg (b16 (sSub b)))/\Below w.heap.size w w':=by
 have hmf:∀(fn:Fn) (first cap:Array Value) (w:World),(Instr.makeFunc fn first cap).run Tryz.prog w=.ok (.func fn first cap) w:=fun _ _ _ _=>rfl;have HSB:=zh (sizeBlock b);obtain⟨ZB,hZB⟩:∃ZB:Array Value,ZB=#[.int .u8 0,.int .u8 0,.int .u8 0,.int .u8 0,.int .u8 0,.int .u8 0,.int .u8 0,.int .u8 0,.int .u8 0,.int .u8 0,.int .u8 0,.int .u8 0,.int .u8 0,.int .u8 0,.int .u8 0,.int .u8 0]:=⟨_,rfl⟩
 have HZB:=zh hZB;obtain⟨BA,hBA⟩:∃BA,BA=b16 b:=⟨_,rfl⟩
 have HBA:=zh hBA;obtain⟨RA,hRA⟩:∃RA,RA=b16 (sSub b):=⟨_,rfl⟩
 have HRS:Hid ((Tryz.prog.info? 213).map (·.size)=some RA.size):=zh (by rw[hRA];exact sizeBlock _);have HZR:Hid (ZB.size=RA.size):=zh (by rw[hZB,hRA,b16_size];rfl);have HRO:Hid (RA.all (·.oneCell')=true):=zh (by rw[hRA];exact b16_one _);have HEA:=zh (fun(V:World) (c1:Value)=>each_sub_ok b hb (fun _ x=>sbx x) c1 V);have HBB:=zh hb;have HCI:=zh h;rw[show(fun i=>sbx (b i))=sSub b from rfl,<-hRA]at HEA;rw[<-hBA]at HEA;rw[<-hBA]at HSB;rw[<-hRA];rw[<-hBA];clear hZB hBA hRA hb h;go_enter Tryz.func147,Tryz.ntmps147;go_upto_region 1 with (fail)
 obtain⟨p0,hp0⟩:∃p0,p0=w.heap.size:=⟨_,rfl⟩
 refine wp_let (fun V=>Blk V (p0) 183 #[.pointer (some ⟨cg,0,none⟩)]/\Blk V (p0+1) 213 BA/\Blk V (p0+2) 213 ZB/\Below w.heap.size w V) ⟨by rw[hp0];exact((blk_atA _ _ _ _ (by simp)).alloc _).alloc _,by rw[hp0];exact(blk_atA _ _ _ _ (by simp)).alloc _,by rw[hp0,HZB.out];exact blk_atA _ _ _ _ (by simp),(((Below.refl _ _).alloc (by first | exact Nat.le_refl _ | (simp only[World.size_alloc];omega)) _).alloc (by first | exact Nat.le_refl _ | (simp only[World.size_alloc];omega)) _).alloc (by first | exact Nat.le_refl _ | (simp only[World.size_alloc];omega)) _⟩ ?_;rintro W ⟨b0,b1,b2,bb⟩;have HP0:=zh hp0;have B0:=zh b0;have B1:=zh b1;have B2:=zh b2;have BB:=zh bb;have HCW:=zh (HCI.out.below bb);have HE:=zh (HEA.out W (.pointer (some ⟨p0,0,none⟩)) (fun V hV i hi=>(subc_ok i (b i) (sbx (b i)) (HBB.out i hi) p0 cg V ((b0.below hV b0.lt).cell 0) ((HCW.out.below hV).box (HBB.out i hi))).mono (fun e W' ⟨h1,h2⟩=>⟨h1,by rw[<-h2];exact Below.refl _ _⟩)));rw[<-hp0];clear b0 b1 b2 bb hp0;go_wp2_with (first
  | (refine wpList_load_row rfl _ _ rfl (p0+1) rfl 213 BA (0,0) _ B1.out Tryz.underlying213 rfl HSB.out ?_)
  | (go_at_call 166;refine(HE.out).mono ?_;rintro e w4 ⟨rfl,hb4⟩;have Z4:=zh (B2.out.below hb4 B2.out.lt);have B4:=zh (BB.out.trans (hb4.mono BB.out.size));clear hb4)
  | (refine wpList_store_row rfl _ _ _ rfl (p0+2) RA rfl rfl 213 ZB Z4.out HRS.out HZR.out HRO.out ?_))
 refine bodyPost_ret (v:=.agg RA) (results_cell_row (g:=p0+2) (t:=213) (fr:=(0,0)) Tryz.results147 _ _ RA _ rfl (setRow_heap _ (p0+2) ZB RA 213 (0,0) Z4.out) Tryz.underlying213 rfl HRS.out) rfl ⟨rfl,?_⟩
 exact belowRow B4.out (by rw[HP0.out];omega) _
theorem shift_ok (b:Nat->Nat) (hb:B16 b) (p:Value) (n:Int) (w:World) :
  Calls Tryz.prog 148 #[p,.agg (b16 b),.int .i64 n] w fun e w'=>e=.returned (.agg (b16 (sShift b)))/\Below w.heap.size w w':=by
 have hmf:∀(fn:Fn) (first cap:Array Value) (w:World),(Instr.makeFunc fn first cap).run Tryz.prog w=.ok (.func fn first cap) w:=fun _ _ _ _=>rfl;have HSB:=zh (sizeBlock b);obtain⟨ZB,hZB⟩:∃ZB:Array Value,ZB=#[.int .u8 0,.int .u8 0,.int .u8 0,.int .u8 0,.int .u8 0,.int .u8 0,.int .u8 0,.int .u8 0,.int .u8 0,.int .u8 0,.int .u8 0,.int .u8 0,.int .u8 0,.int .u8 0,.int .u8 0,.int .u8 0]:=⟨_,rfl⟩
 have HZB:=zh hZB;obtain⟨BA,hBA⟩:∃BA,BA=b16 b:=⟨_,rfl⟩
 have HBA:=zh hBA;obtain⟨RA,hRA⟩:∃RA,RA=b16 (sShift b):=⟨_,rfl⟩
 have HRS:Hid ((Tryz.prog.info? 213).map (·.size)=some RA.size):=zh (by rw[hRA];exact sizeBlock _);have HZR:Hid (ZB.size=RA.size):=zh (by rw[hZB,hRA,b16_size];rfl);have HRO:Hid (RA.all (·.oneCell')=true):=zh (by rw[hRA];exact b16_one _);have HEA:=zh (fun(V:World) (c1:Value)=>each_shift_ok b hb (fun i _=>b ((i+4*(i % 4)) % 16)) c1 V);have HBB:=zh hb;have HAT:=zh (fun j hj=>b16_at b (j:=j) hj);rw[show(fun i=>b ((i+4*(i % 4)) % 16))=sShift b from rfl,<-hRA]at HEA;rw[<-hBA]at HEA HAT;rw[<-hBA]at HSB;rw[<-hRA];rw[<-hBA];clear hZB hBA hRA hb;go_enter Tryz.func148,Tryz.ntmps148;go_upto_region 1 with (fail)
 obtain⟨p0,hp0⟩:∃p0,p0=w.heap.size:=⟨_,rfl⟩
 refine wp_let (fun V=>Blk V (p0) 213 BA/\Blk V (p0+1) 213 ZB/\Below w.heap.size w V) ⟨by rw[hp0];exact(blk_atA _ _ _ _ (by simp)).alloc _,by rw[hp0,HZB.out];exact blk_atA _ _ _ _ (by simp),((Below.refl _ _).alloc (by first | exact Nat.le_refl _ | (simp only[World.size_alloc];omega)) _).alloc (by first | exact Nat.le_refl _ | (simp only[World.size_alloc];omega)) _⟩ ?_;rintro W ⟨b0,b1,bb⟩;have HP0:=zh hp0;have B0:=zh b0;have B1:=zh b1;have BB:=zh bb;have HE:=zh (HEA.out W (.pointer (some ⟨p0,0,none⟩)) (fun V hV i hi=>(shiftc_ok i (b i:Nat) hi _ p0 V (((b0.below hV b0.lt).cell _).trans (HAT.out _ (Nat.mod_lt _ (by decide))))).mono (fun e W' ⟨h1,h2⟩=>⟨h1,by rw[<-h2];exact Below.refl _ _⟩)));rw[<-hp0];clear b0 b1 bb hp0;go_wp2_with (first
  | (refine wpList_load_row rfl _ _ rfl (p0) rfl 213 BA (0,0) _ B0.out Tryz.underlying213 rfl HSB.out ?_)
  | (go_at_call 166;refine(HE.out).mono ?_;rintro e w4 ⟨rfl,hb4⟩;have Z4:=zh (B1.out.below hb4 B1.out.lt);have B4:=zh (BB.out.trans (hb4.mono BB.out.size));clear hb4)
  | (refine wpList_store_row rfl _ _ _ rfl (p0+1) RA rfl rfl 213 ZB Z4.out HRS.out HZR.out HRO.out ?_))
 refine bodyPost_ret (v:=.agg RA) (results_cell_row (g:=p0+1) (t:=213) (fr:=(0,0)) Tryz.results148 _ _ RA _ rfl (setRow_heap _ (p0+1) ZB RA 213 (0,0) Z4.out) Tryz.underlying213 rfl HRS.out) rfl ⟨rfl,?_⟩
 exact belowRow B4.out (by rw[HP0.out];omega) _
theorem add_ok (b:Nat->Nat) (hb:B16 b) (cg:Nat) (key:Nat->Nat) (hk:B16 key) (n:Nat) (hn:n < 11) (w:World) (h:CipM w cg key) :
  Calls Tryz.prog 146 #[.pointer (some ⟨cg,0,none⟩),.agg (b16 b),.int .i64 n] w fun e w'=>e=.returned (.agg (b16 (sAdd (sched sbx key) n b)))/\Below w.heap.size w w':=by
 have hmf:∀(fn:Fn) (first cap:Array Value) (w:World),(Instr.makeFunc fn first cap).run Tryz.prog w=.ok (.func fn first cap) w:=fun _ _ _ _=>rfl;have HSB:=zh (sizeBlock b);obtain⟨ZB,hZB⟩:∃ZB:Array Value,ZB=#[.int .u8 0,.int .u8 0,.int .u8 0,.int .u8 0,.int .u8 0,.int .u8 0,.int .u8 0,.int .u8 0,.int .u8 0,.int .u8 0,.int .u8 0,.int .u8 0,.int .u8 0,.int .u8 0,.int .u8 0,.int .u8 0]:=⟨_,rfl⟩
 have HZB:=zh hZB;obtain⟨BA,hBA⟩:∃BA,BA=b16 b:=⟨_,rfl⟩
 have HBA:=zh hBA;obtain⟨RA,hRA⟩:∃RA,RA=b16 (sAdd (sched sbx key) n b):=⟨_,rfl⟩
 have HRS:Hid ((Tryz.prog.info? 213).map (·.size)=some RA.size):=zh (by rw[hRA];exact sizeBlock _);have HZR:Hid (ZB.size=RA.size):=zh (by rw[hZB,hRA,b16_size];rfl);have HRO:Hid (RA.all (·.oneCell')=true):=zh (by rw[hRA];exact b16_one _);have HEA:=zh (fun(V:World) (c1 c2:Value)=>each_add_ok b hb (fun i x=>x ^^^ sched sbx key n i) c1 c2 V);have HBB:=zh hb;have HCI:=zh h;have HKL:=zh (fun i hi=>sched_lt (boxK_lt 255) hk n i hi);rw[show(fun i=>b i ^^^ sched sbx key n i)=sAdd (sched sbx key) n b from rfl,<-hRA]at HEA;rw[<-hBA]at HEA;rw[<-hBA]at HSB;rw[<-hRA];rw[<-hBA];clear hZB hBA hRA hb h;go_enter Tryz.func146,Tryz.ntmps146;go_upto_region 1 with (fail)
 obtain⟨p0,hp0⟩:∃p0,p0=w.heap.size:=⟨_,rfl⟩
 refine wp_let (fun V=>Blk V (p0) 183 #[.pointer (some ⟨cg,0,none⟩)]/\Blk V (p0+1) 213 BA/\Blk V (p0+2) 3 #[.int .i64 n]/\Blk V (p0+3) 213 ZB/\Below w.heap.size w V) ⟨by rw[hp0];exact(((blk_atA _ _ _ _ (by simp)).alloc _).alloc _).alloc _,by rw[hp0];exact((blk_atA _ _ _ _ (by simp)).alloc _).alloc _,by rw[hp0];exact(blk_atA _ _ _ _ (by simp)).alloc _,by rw[hp0,HZB.out];exact blk_atA _ _ _ _ (by simp),((((Below.refl _ _).alloc (by first | exact Nat.le_refl _ | (simp only[World.size_alloc];omega)) _).alloc (by first | exact Nat.le_refl _ | (simp only[World.size_alloc];omega)) _).alloc (by first | exact Nat.le_refl _ | (simp only[World.size_alloc];omega)) _).alloc (by first | exact Nat.le_refl _ | (simp only[World.size_alloc];omega)) _⟩ ?_;rintro W ⟨b0,b1,b2,b3,bb⟩;have HP0:=zh hp0;have B0:=zh b0;have B1:=zh b1;have B2:=zh b2;have B3:=zh b3;have BB:=zh bb;have HCW:=zh (HCI.out.below bb);have HE:=zh (HEA.out W (.pointer (some ⟨p0,0,none⟩)) (.pointer (some ⟨p0+2,0,none⟩)) (fun V hV i hi=>addc_ok i n (b i) (sched sbx key n i) hi hn (HBB.out i hi) (HKL.out i hi) p0 (p0+2) cg V ((b0.below hV b0.lt).cell 0) ((b2.below hV b2.lt).cell 0) ((HCW.out.below hV).key hn hi)));rw[<-hp0];clear b0 b1 b2 b3 bb hp0;go_wp2_with (first
  | (refine wpList_load_row rfl _ _ rfl (p0+1) rfl 213 BA (0,0) _ B1.out Tryz.underlying213 rfl HSB.out ?_)
  | (go_at_call 166;refine(HE.out).mono ?_;rintro e w4 ⟨rfl,hb4⟩;have Z4:=zh (B3.out.below hb4 B3.out.lt);have B4:=zh (BB.out.trans (hb4.mono BB.out.size));clear hb4)
  | (refine wpList_store_row rfl _ _ _ rfl (p0+3) RA rfl rfl 213 ZB Z4.out HRS.out HZR.out HRO.out ?_))
 refine bodyPost_ret (v:=.agg RA) (results_cell_row (g:=p0+3) (t:=213) (fr:=(0,0)) Tryz.results146 _ _ RA _ rfl (setRow_heap _ (p0+3) ZB RA 213 (0,0) Z4.out) Tryz.underlying213 rfl HRS.out) rfl ⟨rfl,?_⟩
 exact belowRow B4.out (by rw[HP0.out];omega) _
theorem mixed_ok (b:Nat->Nat) (hb:B16 b) (n:Nat) (w:World) :
  Calls Tryz.prog 170 #[.agg (b16 b),.int .i64 n,.agg #[.int .u8 2,.int .u8 3,.int .u8 1,.int .u8 1]] w fun e w'=>e=.returned (.agg (b16 (sMix n b)))/\Below w.heap.size w w':=by
 have hmf:∀(fn:Fn) (first cap:Array Value) (w:World),(Instr.makeFunc fn first cap).run Tryz.prog w=.ok (.func fn first cap) w:=fun _ _ _ _=>rfl;have HSB:=zh (sizeBlock b);obtain⟨ZB,hZB⟩:∃ZB:Array Value,ZB=#[.int .u8 0,.int .u8 0,.int .u8 0,.int .u8 0,.int .u8 0,.int .u8 0,.int .u8 0,.int .u8 0,.int .u8 0,.int .u8 0,.int .u8 0,.int .u8 0,.int .u8 0,.int .u8 0,.int .u8 0,.int .u8 0]:=⟨_,rfl⟩
 have HZB:=zh hZB;obtain⟨BA,hBA⟩:∃BA,BA=b16 b:=⟨_,rfl⟩
 have HBA:=zh hBA;obtain⟨RA,hRA⟩:∃RA,RA=b16 (sMix n b):=⟨_,rfl⟩
 have HRS:Hid ((Tryz.prog.info? 213).map (·.size)=some RA.size):=zh (by rw[hRA];exact sizeBlock _);have HZR:Hid (ZB.size=RA.size):=zh (by rw[hZB,hRA,b16_size];rfl);have HRO:Hid (RA.all (·.oneCell')=true):=zh (by rw[hRA];exact b16_one _);have HEA:=zh (fun(V:World) (c1 c2:Value)=>each_mixed_ok b hb (fun i _=>mixAt b i) c1 c2 V);have HBB:=zh hb;have HRA:=zh hRA;rw[<-hBA]at HEA;rw[<-hBA]at HSB;rw[<-hRA];rw[<-hBA];clear hZB hBA hRA hb;go_enter Tryz.func170,Tryz.ntmps170;go_upto_region 1 with (fail)
 obtain⟨p0,hp0⟩:∃p0,p0=w.heap.size:=⟨_,rfl⟩
 refine wp_let (fun V=>Blk V (p0) 213 BA/\Blk V (p0+1) 169 #[.int .u8 2,.int .u8 3,.int .u8 1,.int .u8 1]/\Blk V (p0+2) 213 ZB/\Below w.heap.size w V) ⟨by rw[hp0];exact((blk_atA _ _ _ _ (by simp)).alloc _).alloc _,by rw[hp0];exact(blk_atA _ _ _ _ (by simp)).alloc _,by rw[hp0,HZB.out];exact blk_atA _ _ _ _ (by simp),(((Below.refl _ _).alloc (by first | exact Nat.le_refl _ | (simp only[World.size_alloc];omega)) _).alloc (by first | exact Nat.le_refl _ | (simp only[World.size_alloc];omega)) _).alloc (by first | exact Nat.le_refl _ | (simp only[World.size_alloc];omega)) _⟩ ?_;rintro W ⟨b0,b1,b2,bb⟩;have HP0:=zh hp0;have B0:=zh b0;have B1:=zh b1;have B2:=zh b2;have BB:=zh bb;rw[<-hp0];clear b0 b1 b2 bb hp0;by_cases h10:n=10
 ·subst h10;have HEQ:Hid (RA=BA):=zh (by rw[HRA.out,HBA.out];rfl);go_wp2_with (first
   | (refine wpList_load_row rfl _ _ rfl p0 rfl 213 BA (0,0) _ B0.out Tryz.underlying213 rfl HSB.out ?_)
   | (rw[<-HEQ.out];refine wpList_store_row rfl _ _ _ rfl (p0+2) RA rfl rfl 213 ZB B2.out HRS.out HZR.out HRO.out ?_))
  refine bodyPost_ret (v:=.agg RA) (results_cell_row (g:=p0+2) (t:=213) (fr:=(0,0)) Tryz.results170 _ _ RA _ rfl (setRow_heap _ (p0+2) ZB RA 213 (0,0) B2.out) Tryz.underlying213 rfl HRS.out) rfl ⟨rfl,?_⟩
  exact belowRow BB.out (by rw[HP0.out];omega) _
 ·have hne:((n:Int) == 10)=false:=by rw[beq_eq_false_iff_ne];omega
  have HR2:Hid (RA=b16 (fun i=>mixAt b i)):=zh (by rw[HRA.out];unfold sMix;rw[if_neg h10]);have HE:=zh (HEA.out W (.pointer (some ⟨p0+1,0,none⟩)) (.pointer (some ⟨p0,0,none⟩)) (fun V hV i hi=>(mixc_ok i (b i:Nat) hi b HBB.out (p0+1) p0 V (B1.out.below hV B1.out.lt) (HBA.out ▸ B0.out.below hV B0.out.lt)).mono (fun e W' ⟨h1,h2⟩=>⟨h1,by rw[<-h2];exact Below.refl _ _⟩)));rw[<-HR2.out]at HE;go_wp2_with (first
   | (refine wpList_load_row rfl _ _ rfl (p0) rfl 213 BA (0,0) _ B0.out Tryz.underlying213 rfl HSB.out ?_)
   | (go_at_call 166;refine(HE.out).mono ?_;rintro e w4 ⟨rfl,hb4⟩;have Z4:=zh (B2.out.below hb4 B2.out.lt);have B4:=zh (BB.out.trans (hb4.mono BB.out.size));clear hb4)
   | (refine wpList_store_row rfl _ _ _ rfl (p0+2) RA rfl rfl 213 ZB Z4.out HRS.out HZR.out HRO.out ?_))
  refine bodyPost_ret (v:=.agg RA) (results_cell_row (g:=p0+2) (t:=213) (fr:=(0,0)) Tryz.results170 _ _ RA _ rfl (setRow_heap _ (p0+2) ZB RA 213 (0,0) Z4.out) Tryz.underlying213 rfl HRS.out) rfl ⟨rfl,?_⟩
  exact belowRow B4.out (by rw[HP0.out];omega) _
theorem mix_ok (b:Nat->Nat) (hb:B16 b) (p:Value) (n:Nat) (w:World) :
  Calls Tryz.prog 149 #[p,.agg (b16 b),.int .i64 n] w fun e w'=>e=.returned (.agg (b16 (sMix n b)))/\Below w.heap.size w w':=by
 have hmf:∀(fn:Fn) (first cap:Array Value) (w:World),(Instr.makeFunc fn first cap).run Tryz.prog w=.ok (.func fn first cap) w:=fun _ _ _ _=>rfl;have HSB:=zh (sizeBlock b);obtain⟨ZB,hZB⟩:∃ZB:Array Value,ZB=#[.int .u8 0,.int .u8 0,.int .u8 0,.int .u8 0,.int .u8 0,.int .u8 0,.int .u8 0,.int .u8 0,.int .u8 0,.int .u8 0,.int .u8 0,.int .u8 0,.int .u8 0,.int .u8 0,.int .u8 0,.int .u8 0]:=⟨_,rfl⟩
 have HZB:=zh hZB;obtain⟨BA,hBA⟩:∃BA,BA=b16 b:=⟨_,rfl⟩
 have HBA:=zh hBA;obtain⟨RA,hRA⟩:∃RA,RA=b16 (sMix n b):=⟨_,rfl⟩
 have HRS:Hid ((Tryz.prog.info? 213).map (·.size)=some RA.size):=zh (by rw[hRA];exact sizeBlock _);have HZR:Hid (ZB.size=RA.size):=zh (by rw[hZB,hRA,b16_size];rfl);have HRO:Hid (RA.all (·.oneCell')=true):=zh (by rw[hRA];exact b16_one _);have HEA:=zh (fun(V:World)=>mixed_ok b hb n V);rw[<-hRA]at HEA;rw[<-hBA]at HEA;rw[<-hBA]at HSB;rw[<-hRA];rw[<-hBA];clear hZB hBA hRA hb;go_enter Tryz.func149,Tryz.ntmps149;go_upto_region 1 with (fail)
 obtain⟨p0,hp0⟩:∃p0,p0=w.heap.size:=⟨_,rfl⟩
 refine wp_let (fun V=>Blk V (p0) 213 BA/\Blk V (p0+1) 213 ZB/\Below w.heap.size w V) ⟨by rw[hp0];exact(blk_atA _ _ _ _ (by simp)).alloc _,by rw[hp0,HZB.out];exact blk_atA _ _ _ _ (by simp),((Below.refl _ _).alloc (by first | exact Nat.le_refl _ | (simp only[World.size_alloc];omega)) _).alloc (by first | exact Nat.le_refl _ | (simp only[World.size_alloc];omega)) _⟩ ?_;rintro W ⟨b0,b1,bb⟩;have HP0:=zh hp0;have B0:=zh b0;have B1:=zh b1;have BB:=zh bb;have HE:=zh (HEA.out W);rw[<-hp0];clear b0 b1 bb hp0;go_wp2_with (first
  | (refine wpList_load_row rfl _ _ rfl (p0) rfl 213 BA (0,0) _ B0.out Tryz.underlying213 rfl HSB.out ?_)
  | (go_at_call 170;refine(HE.out).mono ?_;rintro e w4 ⟨rfl,hb4⟩;have Z4:=zh (B1.out.below hb4 B1.out.lt);have B4:=zh (BB.out.trans (hb4.mono BB.out.size));clear hb4)
  | (refine wpList_store_row rfl _ _ _ rfl (p0+1) RA rfl rfl 213 ZB Z4.out HRS.out HZR.out HRO.out ?_))
 refine bodyPost_ret (v:=.agg RA) (results_cell_row (g:=p0+1) (t:=213) (fr:=(0,0)) Tryz.results149 _ _ RA _ rfl (setRow_heap _ (p0+1) ZB RA 213 (0,0) Z4.out) Tryz.underlying213 rfl HRS.out) rfl ⟨rfl,?_⟩
 exact belowRow B4.out (by rw[HP0.out];omega) _
end Go.Proofs.YtnadmdadcpemnaaGreat
