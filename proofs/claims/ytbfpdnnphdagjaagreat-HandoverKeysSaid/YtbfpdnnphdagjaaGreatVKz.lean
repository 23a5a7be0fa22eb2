import Derived.Test.YtbfpdnnphdagjaaGreatVJz
set_option maxRecDepth 100000
set_option maxHeartbeats 1600000
set_option linter.unusedVariables false
set_option linter.unusedSimpArgs false
namespace Go.Proofs.YtbfpdnnphdagjaaGreat
open Go.RowKit
attribute [local go_sem ↓] Go.wp_at_zero Go.wp_at_succ
def jb (key:Nat->Nat):Array Value:=aS fv uP++aV (aX fv key) 176
theorem nY (key:Nat->Nat) {x:Nat} (hx:x < 256):(jb key)[x]? = some (.int .u8 (fv x:Nat)):=by
 unfold jb;rw[Array.getElem?_append_left (by rw[aK];omega),cz _ _ (by omega),if_pos hx]
theorem nC (key:Nat->Nat) {n i:Nat} (hn:n < 11) (hi:i < 16):(jb key)[512+n*16+i]? = some (.int .u8 (aX fv key n i:Nat)):=by
 unfold jb;rw[Array.getElem?_append_right (by rw[aK];omega),aK,show 512+n*16+i-512=n*16+i by omega,bo _ _ (by omega),if_pos (by omega),show(n*16+i) / 16=n by omega,show(n*16+i) % 16=i by omega]
def cF (w:World) (g:Nat) (key:Nat->Nat):Prop:=ae w g 262 (jb key)
theorem cF.below {w w':World} {g:Nat} {key:Nat->Nat} (h:cF w g key) (hb:Below w.heap.size w w'):cF w' g key:=ae.below h hb (ae.lt h)
theorem cF.box {w:World} {g:Nat} {key:Nat->Nat} (h:cF w g key) {x:Nat} (hx:x < 256):w.cell? ⟨g,x,none⟩=some (.int .u8 (fv x:Nat)):=(ae.cell h x).trans (nY key hx)
theorem cF.key {w:World} {g:Nat} {key:Nat->Nat} (h:cF w g key) {n i:Nat} (hn:n < 11) (hi:i < 16):w.cell? ⟨g,512+n*16+i,none⟩=some (.int .u8 (aX fv key n i:Nat)):=(ae.cell h _).trans (nC key hn hi)
theorem vf (b:Nat->Nat) (hb:bf b) (cg:Nat) (key:Nat->Nat) (n:Int) (w:World) (h:cF w cg key) :
  Calls Tryz.prog 164 #[.pointer (some ⟨cg,0,none⟩),.agg (am b),.int .i64 n] w fun e w'=>e=.returned (.agg (am (kV b)))/\Below w.heap.size w w':=by
 have hmf:∀(fn:Fn) (first cap:Array Value) (w:World),(Instr.makeFunc fn first cap).run Tryz.prog w=.ok (.func fn first cap) w:=fun _ _ _ _=>rfl;have HSB:=zh (aA b);obtain⟨ZB,hZB⟩:∃ZB:Array Value,ZB=#[.int .u8 0,.int .u8 0,.int .u8 0,.int .u8 0,.int .u8 0,.int .u8 0,.int .u8 0,.int .u8 0,.int .u8 0,.int .u8 0,.int .u8 0,.int .u8 0,.int .u8 0,.int .u8 0,.int .u8 0,.int .u8 0]:=⟨_,rfl⟩
 have HZB:=zh hZB;obtain⟨BA,hBA⟩:=ah (am b)
 have HBA:=zh hBA;obtain⟨RA,hRA⟩:=ah (am (kV b))
 have HRS:Hid ((Tryz.prog.info? 258).map (·.size)=some RA.size):=zh (by rw[hRA];exact aA _);have HZR:Hid (ZB.size=RA.size):=zh (by rw[hZB,hRA,aj];rfl);have HRO:Hid (RA.all (·.oneCell')=true):=zh (by rw[hRA];exact aC _);have HEA:=zh (fun(V:World) (c1:Value)=>mW b hb (fun _ x=>fv x) c1 V);have HBB:=zh hb;have HCI:=zh h;rw[show(fun i=>fv (b i))=kV b from rfl,<-hRA]at HEA;rw[<-hBA]at HEA;rw[<-hBA]at HSB;rw[<-hRA];rw[<-hBA];clear hZB hBA hRA hb h;go_enter Tryz.func164,Tryz.ntmps164;go_upto_region 1 with (fail)
 obtain⟨p0,hp0⟩:=ah w.heap.size
 refine ai (fun V=>ae V (p0) 223 #[.pointer (some ⟨cg,0,none⟩)]/\ae V (p0+1) 258 BA/\ae V (p0+2) 258 ZB/\Below w.heap.size w V) ⟨by rw[hp0];exact((al _ _ _ _ (by simp)).alloc _).alloc _,by rw[hp0];exact(al _ _ _ _ (by simp)).alloc _,by rw[hp0,HZB.out];exact al _ _ _ _ (by simp),(((Below.refl _ _).alloc (by first | exact Nat.le_refl _ | (simp only[World.size_alloc];omega)) _).alloc (by first | exact Nat.le_refl _ | (simp only[World.size_alloc];omega)) _).alloc (by first | exact Nat.le_refl _ | (simp only[World.size_alloc];omega)) _⟩ ?_;rintro W ⟨b0,b1,b2,bb⟩;have HP0:=zh hp0;have B0:=zh b0;have B1:=zh b1;have B2:=zh b2;have BB:=zh bb;have HCW:=zh (HCI.out.below bb);have HE:=zh (HEA.out W (.pointer (some ⟨p0,0,none⟩)) (fun V hV i hi=>(tD i (b i) (fv (b i)) (HBB.out i hi) p0 cg V ((b0.below hV b0.lt).cell 0) ((HCW.out.below hV).box (HBB.out i hi))).mono (fun e W' ⟨h1,h2⟩=>⟨h1,by rw[<-h2];exact Below.refl _ _⟩)));rw[<-hp0];clear b0 b1 b2 bb hp0;go_wp2_with (first
  | (refine wpList_load_row rfl _ _ rfl (p0+1) rfl 258 BA (0,0) _ B1.out Tryz.underlying258 rfl HSB.out ?_)
  | (go_at_call 189;refine(HE.out).mono ?_;rintro e w4 ⟨rfl,hb4⟩;have Z4:=zh (B2.out.below hb4 B2.out.lt);have B4:=zh (BB.out.trans (hb4.mono BB.out.size));clear hb4)
  | (refine wpList_store_row rfl _ _ _ rfl (p0+2) RA rfl rfl 258 ZB Z4.out HRS.out HZR.out HRO.out ?_))
 refine bodyPost_ret (v:=.agg RA) (results_cell_row (g:=p0+2) (t:=258) (fr:=(0,0)) Tryz.results164 _ _ RA _ rfl (setRow_heap _ (p0+2) ZB RA 258 (0,0) Z4.out) Tryz.underlying258 rfl HRS.out) rfl ⟨rfl,?_⟩
 exact ak B4.out (by rw[HP0.out];omega) _
theorem rU (b:Nat->Nat) (hb:bf b) (p:Value) (n:Int) (w:World) :
  Calls Tryz.prog 165 #[p,.agg (am b),.int .i64 n] w fun e w'=>e=.returned (.agg (am (fc b)))/\Below w.heap.size w w':=by
 have hmf:∀(fn:Fn) (first cap:Array Value) (w:World),(Instr.makeFunc fn first cap).run Tryz.prog w=.ok (.func fn first cap) w:=fun _ _ _ _=>rfl;have HSB:=zh (aA b);obtain⟨ZB,hZB⟩:∃ZB:Array Value,ZB=#[.int .u8 0,.int .u8 0,.int .u8 0,.int .u8 0,.int .u8 0,.int .u8 0,.int .u8 0,.int .u8 0,.int .u8 0,.int .u8 0,.int .u8 0,.int .u8 0,.int .u8 0,.int .u8 0,.int .u8 0,.int .u8 0]:=⟨_,rfl⟩
 have HZB:=zh hZB;obtain⟨BA,hBA⟩:=ah (am b)
 have HBA:=zh hBA;obtain⟨RA,hRA⟩:=ah (am (fc b))
 have HRS:Hid ((Tryz.prog.info? 258).map (·.size)=some RA.size):=zh (by rw[hRA];exact aA _);have HZR:Hid (ZB.size=RA.size):=zh (by rw[hZB,hRA,aj];rfl);have HRO:Hid (RA.all (·.oneCell')=true):=zh (by rw[hRA];exact aC _);have HEA:=zh (fun(V:World) (c1:Value)=>jO b hb (fun i _=>b ((i+4*(i % 4)) % 16)) c1 V);have HBB:=zh hb;have HAT:=zh (fun j hj=>aN b (j:=j) hj);rw[show(fun i=>b ((i+4*(i % 4)) % 16))=fc b from rfl,<-hRA]at HEA;rw[<-hBA]at HEA HAT;rw[<-hBA]at HSB;rw[<-hRA];rw[<-hBA];clear hZB hBA hRA hb;go_enter Tryz.func165,Tryz.ntmps165;go_upto_region 1 with (fail)
 obtain⟨p0,hp0⟩:=ah w.heap.size
 refine ai (fun V=>ae V (p0) 258 BA/\ae V (p0+1) 258 ZB/\Below w.heap.size w V) ⟨by rw[hp0];exact(al _ _ _ _ (by simp)).alloc _,by rw[hp0,HZB.out];exact al _ _ _ _ (by simp),((Below.refl _ _).alloc (by first | exact Nat.le_refl _ | (simp only[World.size_alloc];omega)) _).alloc (by first | exact Nat.le_refl _ | (simp only[World.size_alloc];omega)) _⟩ ?_;rintro W ⟨b0,b1,bb⟩;have HP0:=zh hp0;have B0:=zh b0;have B1:=zh b1;have BB:=zh bb;have HE:=zh (HEA.out W (.pointer (some ⟨p0,0,none⟩)) (fun V hV i hi=>(pK i (b i:Nat) hi _ p0 V (((b0.below hV b0.lt).cell _).trans (HAT.out _ (Nat.mod_lt _ (by decide))))).mono (fun e W' ⟨h1,h2⟩=>⟨h1,by rw[<-h2];exact Below.refl _ _⟩)));rw[<-hp0];clear b0 b1 bb hp0;go_wp2_with (first
  | (refine wpList_load_row rfl _ _ rfl (p0) rfl 258 BA (0,0) _ B0.out Tryz.underlying258 rfl HSB.out ?_)
  | (go_at_call 189;refine(HE.out).mono ?_;rintro e w4 ⟨rfl,hb4⟩;have Z4:=zh (B1.out.below hb4 B1.out.lt);have B4:=zh (BB.out.trans (hb4.mono BB.out.size));clear hb4)
  | (refine wpList_store_row rfl _ _ _ rfl (p0+1) RA rfl rfl 258 ZB Z4.out HRS.out HZR.out HRO.out ?_))
 refine bodyPost_ret (v:=.agg RA) (results_cell_row (g:=p0+1) (t:=258) (fr:=(0,0)) Tryz.results165 _ _ RA _ rfl (setRow_heap _ (p0+1) ZB RA 258 (0,0) Z4.out) Tryz.underlying258 rfl HRS.out) rfl ⟨rfl,?_⟩
 exact ak B4.out (by rw[HP0.out];omega) _
theorem rA (b:Nat->Nat) (hb:bf b) (cg:Nat) (key:Nat->Nat) (hk:bf key) (n:Nat) (hn:n < 11) (w:World) (h:cF w cg key) :
  Calls Tryz.prog 163 #[.pointer (some ⟨cg,0,none⟩),.agg (am b),.int .i64 n] w fun e w'=>e=.returned (.agg (am (mD (aX fv key) n b)))/\Below w.heap.size w w':=by
 have hmf:∀(fn:Fn) (first cap:Array Value) (w:World),(Instr.makeFunc fn first cap).run Tryz.prog w=.ok (.func fn first cap) w:=fun _ _ _ _=>rfl;have HSB:=zh (aA b);obtain⟨ZB,hZB⟩:∃ZB:Array Value,ZB=#[.int .u8 0,.int .u8 0,.int .u8 0,.int .u8 0,.int .u8 0,.int .u8 0,.int .u8 0,.int .u8 0,.int .u8 0,.int .u8 0,.int .u8 0,.int .u8 0,.int .u8 0,.int .u8 0,.int .u8 0,.int .u8 0]:=⟨_,rfl⟩
 have HZB:=zh hZB;obtain⟨BA,hBA⟩:=ah (am b)
 have HBA:=zh hBA;obtain⟨RA,hRA⟩:=ah (am (mD (aX fv key) n b))
 have HRS:Hid ((Tryz.prog.info? 258).map (·.size)=some RA.size):=zh (by rw[hRA];exact aA _);have HZR:Hid (ZB.size=RA.size):=zh (by rw[hZB,hRA,aj];rfl);have HRO:Hid (RA.all (·.oneCell')=true):=zh (by rw[hRA];exact aC _);have HEA:=zh (fun(V:World) (c1 c2:Value)=>mo b hb (fun i x=>x ^^^ aX fv key n i) c1 c2 V);have HBB:=zh hb;have HCI:=zh h;have HKL:=zh (fun i hi=>ef (eA 255) hk n i hi);rw[show(fun i=>b i ^^^ aX fv key n i)=mD (aX fv key) n b from rfl,<-hRA]at HEA;rw[<-hBA]at HEA;rw[<-hBA]at HSB;rw[<-hRA];rw[<-hBA];clear hZB hBA hRA hb h;go_enter Tryz.func163,Tryz.ntmps163;go_upto_region 1 with (fail)
 obtain⟨p0,hp0⟩:=ah w.heap.size
 refine ai (fun V=>ae V (p0) 223 #[.pointer (some ⟨cg,0,none⟩)]/\ae V (p0+1) 258 BA/\ae V (p0+2) 3 #[.int .i64 n]/\ae V (p0+3) 258 ZB/\Below w.heap.size w V) ⟨by rw[hp0];exact(((al _ _ _ _ (by simp)).alloc _).alloc _).alloc _,by rw[hp0];exact((al _ _ _ _ (by simp)).alloc _).alloc _,by rw[hp0];exact(al _ _ _ _ (by simp)).alloc _,by rw[hp0,HZB.out];exact al _ _ _ _ (by simp),((((Below.refl _ _).alloc (by first | exact Nat.le_refl _ | (simp only[World.size_alloc];omega)) _).alloc (by first | exact Nat.le_refl _ | (simp only[World.size_alloc];omega)) _).alloc (by first | exact Nat.le_refl _ | (simp only[World.size_alloc];omega)) _).alloc (by first | exact Nat.le_refl _ | (simp only[World.size_alloc];omega)) _⟩ ?_;rintro W ⟨b0,b1,b2,b3,bb⟩;have HP0:=zh hp0;have B0:=zh b0;have B1:=zh b1;have B2:=zh b2;have B3:=zh b3;have BB:=zh bb;have HCW:=zh (HCI.out.below bb);have HE:=zh (HEA.out W (.pointer (some ⟨p0,0,none⟩)) (.pointer (some ⟨p0+2,0,none⟩)) (fun V hV i hi=>uy i n (b i) (aX fv key n i) hi hn (HBB.out i hi) (HKL.out i hi) p0 (p0+2) cg V ((b0.below hV b0.lt).cell 0) ((b2.below hV b2.lt).cell 0) ((HCW.out.below hV).key hn hi)));rw[<-hp0];clear b0 b1 b2 b3 bb hp0;go_wp2_with (first
  | (refine wpList_load_row rfl _ _ rfl (p0+1) rfl 258 BA (0,0) _ B1.out Tryz.underlying258 rfl HSB.out ?_)
  | (go_at_call 189;refine(HE.out).mono ?_;rintro e w4 ⟨rfl,hb4⟩;have Z4:=zh (B3.out.below hb4 B3.out.lt);have B4:=zh (BB.out.trans (hb4.mono BB.out.size));clear hb4)
  | (refine wpList_store_row rfl _ _ _ rfl (p0+3) RA rfl rfl 258 ZB Z4.out HRS.out HZR.out HRO.out ?_))
 refine bodyPost_ret (v:=.agg RA) (results_cell_row (g:=p0+3) (t:=258) (fr:=(0,0)) Tryz.results163 _ _ RA _ rfl (setRow_heap _ (p0+3) ZB RA 258 (0,0) Z4.out) Tryz.underlying258 rfl HRS.out) rfl ⟨rfl,?_⟩
 exact ak B4.out (by rw[HP0.out];omega) _
theorem sF (b:Nat->Nat) (hb:bf b) (n:Nat) (w:World) :
  Calls Tryz.prog 193 #[.agg (am b),.int .i64 n,.agg #[.int .u8 2,.int .u8 3,.int .u8 1,.int .u8 1]] w fun e w'=>e=.returned (.agg (am (jT n b)))/\Below w.heap.size w w':=by
 have hmf:∀(fn:Fn) (first cap:Array Value) (w:World),(Instr.makeFunc fn first cap).run Tryz.prog w=.ok (.func fn first cap) w:=fun _ _ _ _=>rfl;have HSB:=zh (aA b);obtain⟨ZB,hZB⟩:∃ZB:Array Value,ZB=#[.int .u8 0,.int .u8 0,.int .u8 0,.int .u8 0,.int .u8 0,.int .u8 0,.int .u8 0,.int .u8 0,.int .u8 0,.int .u8 0,.int .u8 0,.int .u8 0,.int .u8 0,.int .u8 0,.int .u8 0,.int .u8 0]:=⟨_,rfl⟩
 have HZB:=zh hZB;obtain⟨BA,hBA⟩:=ah (am b)
 have HBA:=zh hBA;obtain⟨RA,hRA⟩:=ah (am (jT n b))
 have HRS:Hid ((Tryz.prog.info? 258).map (·.size)=some RA.size):=zh (by rw[hRA];exact aA _);have HZR:Hid (ZB.size=RA.size):=zh (by rw[hZB,hRA,aj];rfl);have HRO:Hid (RA.all (·.oneCell')=true):=zh (by rw[hRA];exact aC _);have HEA:=zh (fun(V:World) (c1 c2:Value)=>jS b hb (fun i _=>mT b i) c1 c2 V);have HBB:=zh hb;have HRA:=zh hRA;rw[<-hBA]at HEA;rw[<-hBA]at HSB;rw[<-hRA];rw[<-hBA];clear hZB hBA hRA hb;go_enter Tryz.func193,Tryz.ntmps193;go_upto_region 1 with (fail)
 obtain⟨p0,hp0⟩:=ah w.heap.size
 refine ai (fun V=>ae V (p0) 258 BA/\ae V (p0+1) 294 #[.int .u8 2,.int .u8 3,.int .u8 1,.int .u8 1]/\ae V (p0+2) 258 ZB/\Below w.heap.size w V) ⟨by rw[hp0];exact((al _ _ _ _ (by simp)).alloc _).alloc _,by rw[hp0];exact(al _ _ _ _ (by simp)).alloc _,by rw[hp0,HZB.out];exact al _ _ _ _ (by simp),(((Below.refl _ _).alloc (by first | exact Nat.le_refl _ | (simp only[World.size_alloc];omega)) _).alloc (by first | exact Nat.le_refl _ | (simp only[World.size_alloc];omega)) _).alloc (by first | exact Nat.le_refl _ | (simp only[World.size_alloc];omega)) _⟩ ?_;rintro W ⟨b0,b1,b2,bb⟩;have HP0:=zh hp0;have B0:=zh b0;have B1:=zh b1;have B2:=zh b2;have BB:=zh bb;rw[<-hp0];clear b0 b1 b2 bb hp0;by_cases h10:n=10
 ·subst h10;have HEQ:Hid (RA=BA):=zh (by rw[HRA.out,HBA.out];rfl);go_wp2_with (first
   | (refine wpList_load_row rfl _ _ rfl p0 rfl 258 BA (0,0) _ B0.out Tryz.underlying258 rfl HSB.out ?_)
   | (rw[<-HEQ.out];refine wpList_store_row rfl _ _ _ rfl (p0+2) RA rfl rfl 258 ZB B2.out HRS.out HZR.out HRO.out ?_))
  refine bodyPost_ret (v:=.agg RA) (results_cell_row (g:=p0+2) (t:=258) (fr:=(0,0)) Tryz.results193 _ _ RA _ rfl (setRow_heap _ (p0+2) ZB RA 258 (0,0) B2.out) Tryz.underlying258 rfl HRS.out) rfl ⟨rfl,?_⟩
  exact ak BB.out (by rw[HP0.out];omega) _
 ·have hne:((n:Int) == 10)=false:=by rw[beq_eq_false_iff_ne];omega
  have HR2:Hid (RA=am (fun i=>mT b i)):=zh (by rw[HRA.out];unfold jT;rw[if_neg h10]);have HE:=zh (HEA.out W (.pointer (some ⟨p0+1,0,none⟩)) (.pointer (some ⟨p0,0,none⟩)) (fun V hV i hi=>(tY i (b i:Nat) hi b HBB.out (p0+1) p0 V (B1.out.below hV B1.out.lt) (HBA.out ▸ B0.out.below hV B0.out.lt)).mono (fun e W' ⟨h1,h2⟩=>⟨h1,by rw[<-h2];exact Below.refl _ _⟩)));rw[<-HR2.out]at HE;go_wp2_with (first
   | (refine wpList_load_row rfl _ _ rfl (p0) rfl 258 BA (0,0) _ B0.out Tryz.underlying258 rfl HSB.out ?_)
   | (go_at_call 189;refine(HE.out).mono ?_;rintro e w4 ⟨rfl,hb4⟩;have Z4:=zh (B2.out.below hb4 B2.out.lt);have B4:=zh (BB.out.trans (hb4.mono BB.out.size));clear hb4)
   | (refine wpList_store_row rfl _ _ _ rfl (p0+2) RA rfl rfl 258 ZB Z4.out HRS.out HZR.out HRO.out ?_))
  refine bodyPost_ret (v:=.agg RA) (results_cell_row (g:=p0+2) (t:=258) (fr:=(0,0)) Tryz.results193 _ _ RA _ rfl (setRow_heap _ (p0+2) ZB RA 258 (0,0) Z4.out) Tryz.underlying258 rfl HRS.out) rfl ⟨rfl,?_⟩
  exact ak B4.out (by rw[HP0.out];omega) _
theorem uZ (b:Nat->Nat) (hb:bf b) (p:Value) (n:Nat) (w:World) :
  Calls Tryz.prog 166 #[p,.agg (am b),.int .i64 n] w fun e w'=>e=.returned (.agg (am (jT n b)))/\Below w.heap.size w w':=by
 have hmf:∀(fn:Fn) (first cap:Array Value) (w:World),(Instr.makeFunc fn first cap).run Tryz.prog w=.ok (.func fn first cap) w:=fun _ _ _ _=>rfl;have HSB:=zh (aA b);obtain⟨ZB,hZB⟩:∃ZB:Array Value,ZB=#[.int .u8 0,.int .u8 0,.int .u8 0,.int .u8 0,.int .u8 0,.int .u8 0,.int .u8 0,.int .u8 0,.int .u8 0,.int .u8 0,.int .u8 0,.int .u8 0,.int .u8 0,.int .u8 0,.int .u8 0,.int .u8 0]:=⟨_,rfl⟩
 have HZB:=zh hZB;obtain⟨BA,hBA⟩:=ah (am b)
 have HBA:=zh hBA;obtain⟨RA,hRA⟩:=ah (am (jT n b))
 have HRS:Hid ((Tryz.prog.info? 258).map (·.size)=some RA.size):=zh (by rw[hRA];exact aA _);have HZR:Hid (ZB.size=RA.size):=zh (by rw[hZB,hRA,aj];rfl);have HRO:Hid (RA.all (·.oneCell')=true):=zh (by rw[hRA];exact aC _);have HEA:=zh (fun(V:World)=>sF b hb n V);rw[<-hRA]at HEA;rw[<-hBA]at HEA;rw[<-hBA]at HSB;rw[<-hRA];rw[<-hBA];clear hZB hBA hRA hb;go_enter Tryz.func166,Tryz.ntmps166;go_upto_region 1 with (fail)
 obtain⟨p0,hp0⟩:=ah w.heap.size
 refine ai (fun V=>ae V (p0) 258 BA/\ae V (p0+1) 258 ZB/\Below w.heap.size w V) ⟨by rw[hp0];exact(al _ _ _ _ (by simp)).alloc _,by rw[hp0,HZB.out];exact al _ _ _ _ (by simp),((Below.refl _ _).alloc (by first | exact Nat.le_refl _ | (simp only[World.size_alloc];omega)) _).alloc (by first | exact Nat.le_refl _ | (simp only[World.size_alloc];omega)) _⟩ ?_;rintro W ⟨b0,b1,bb⟩;have HP0:=zh hp0;have B0:=zh b0;have B1:=zh b1;have BB:=zh bb;have HE:=zh (HEA.out W);rw[<-hp0];clear b0 b1 bb hp0;go_wp2_with (first
  | (refine wpList_load_row rfl _ _ rfl (p0) rfl 258 BA (0,0) _ B0.out Tryz.underlying258 rfl HSB.out ?_)
  | (go_at_call 193;refine(HE.out).mono ?_;rintro e w4 ⟨rfl,hb4⟩;have Z4:=zh (B1.out.below hb4 B1.out.lt);have B4:=zh (BB.out.trans (hb4.mono BB.out.size));clear hb4)
  | (refine wpList_store_row rfl _ _ _ rfl (p0+1) RA rfl rfl 258 ZB Z4.out HRS.out HZR.out HRO.out ?_))
 refine bodyPost_ret (v:=.agg RA) (results_cell_row (g:=p0+1) (t:=258) (fr:=(0,0)) Tryz.results166 _ _ RA _ rfl (setRow_heap _ (p0+1) ZB RA 258 (0,0) Z4.out) Tryz.underlying258 rfl HRS.out) rfl ⟨rfl,?_⟩
 exact ak B4.out (by rw[HP0.out];omega) _
end Go.Proofs.YtbfpdnnphdagjaaGreat
