import Derived.Test.YtiiojpnckbglcaaGreatMVBs
set_option maxRecDepth 100000
set_option linter.unusedVariables false
set_option linter.unusedSimpArgs false
namespace Go.Proofs.YtiiojpnckbglcaaGreat
open Go.RowKit
def a9 (K:Nat->Nat->Nat) (p:Nat):Array Value:=Array.ofFn (n:=176) fun c=>.int .u8 ((if c.1 < p then K (c.1 / 16) (c.1 % 16) else 0:Nat):Int)
theorem bm (K:Nat->Nat->Nat) (p:Nat):(a9 K p).size=176:=by simp[a9]
theorem bz (K:Nat->Nat->Nat) (p:Nat) {c:Nat} (h:c < 176):(a9 K p)[c]? = some (.int .u8 ((if c < p then K (c / 16) (c % 16) else 0:Nat):Int)):=by simp[a9,h]
theorem oG (K:Nat->Nat->Nat) (p:Nat) (hp:p < 176):(a9 K p).setIfInBounds p (.int .u8 (K (p / 16) (p % 16):Nat))=a9 K (p+1):=by
 apply Array.ext_getElem?;intro j;rw[Array.getElem?_setIfInBounds,bm];by_cases hj:j < 176
 ·rw[bz _ _ hj,bz _ _ hj];by_cases e:p=j
  ·subst e;rw[if_pos rfl,if_pos hp,if_pos (by omega)]
  ·rw[if_neg e];by_cases h2:j < p
   ·rw[if_pos h2,if_pos (by omega)]
   ·rw[if_neg h2,if_neg (by omega)]
 ·rw[if_neg (by omega),Array.getElem?_eq_none (by rw[bm];omega),Array.getElem?_eq_none (by rw[bm];omega)]
theorem p8 (K:Nat->Nat->Nat) (p:Nat):(a9 K p).all (·.oneCell')=true:=by
 rw[Array.all_eq_true];intro i hi;simp only[a9,Array.getElem_ofFn]
 rfl
def ar (b:Nat->Nat):Array Value:=Array.ofFn (n:=16) fun j=>.int .u8 ((b j.1:Nat):Int)
theorem ah (b:Nat->Nat):(ar b).size=16:=by simp[ar]
theorem aR (b:Nat->Nat) {j:Nat} (h:j < 16):(ar b)[j]? = some (.int .u8 ((b j:Nat):Int)):=by simp[ar,h]
theorem aI (b:Nat->Nat):(ar b).all (·.oneCell')=true:=by
 rw[Array.all_eq_true];intro i hi;simp only[ar,Array.getElem_ofFn]
 rfl
theorem jF (b:Nat->Nat) (i x:Nat) (hi:i < 16):(ar b).setIfInBounds i (.int .u8 (x:Int))=ar (eA b i x):=by
 apply Array.ext_getElem?;intro j;rw[Array.getElem?_setIfInBounds,ah];by_cases hj:j < 16
 ·rw[aR _ hj,aR _ hj];by_cases e:i=j
  ·subst e;rw[if_pos rfl,if_pos hi];simp[eA]
  ·have e2:¬j=i:=fun h=>e h.symm;rw[if_neg e];simp[eA,e2]
 ·rw[if_neg (by omega),Array.getElem?_eq_none (by rw[ah];omega),Array.getElem?_eq_none (by rw[ah];omega)]
end Go.Proofs.YtiiojpnckbglcaaGreat
namespace Go.Proofs.YtiiojpnckbglcaaGreat
open Go.RowKit
attribute [local go_sem ↓] Go.wp_at_zero Go.wp_at_succ
theorem vt (i:Int) (x y:Nat) (hx:x < 256) (pb cg:Nat) (w:World) (h1:w.cell? ⟨pb,0,none⟩=some (.pointer (some ⟨cg,0,none⟩))) (h2:w.cell? ⟨cg,x,none⟩=some (.int .u8 y)) :
  Calls Tryz.prog 214 #[.int .i64 i,.int .u8 x,.pointer (some ⟨pb,0,none⟩)] w fun e w'=>e=.returned (.int .u8 y)/\w=w':=by
 have x1:(x:Int) < 256:=by omega
 go_enter Tryz.func214,Tryz.ntmps214;go_wp2;go_ret
 exact⟨rfl,rfl⟩
theorem rF (i:Nat) (x:Int) (hi:i < 16) (y:Nat) (bb:Nat) (w:World) (h2:w.cell? ⟨bb,(i+4*(i % 4)) % 16,none⟩=some (.int .u8 y)) :
  Calls Tryz.prog 215 #[.int .i64 i,.int .u8 x,.pointer (some ⟨bb,0,none⟩)] w fun e w'=>e=.returned (.int .u8 y)/\w=w':=by
 go_enter Tryz.func215,Tryz.ntmps215;go_wp2;go_ret
 exact⟨rfl,rfl⟩
theorem wJ (i n x y:Nat) (hi:i < 16) (hn:n < 11) (hx:x < 256) (hy:y < 256) (pb nb cg:Nat) (w:World) (h1:w.cell? ⟨pb,0,none⟩=some (.pointer (some ⟨cg,0,none⟩))) (h2:w.cell? ⟨nb,0,none⟩=some (.int .i64 n)) (h3:w.cell? ⟨cg,512+n*16+i,none⟩=some (.int .u8 y)) :
  Calls Tryz.prog 213 #[.int .i64 i,.int .u8 x,.pointer (some ⟨pb,0,none⟩),.pointer (some ⟨nb,0,none⟩)] w fun e w'=>e=.returned (.int .u8 (x ^^^ y:Nat))/\Below w.heap.size w w':=by
 have i0:(0:Int)<=(i:Int):=by omega
 have i1:(i:Int) < 16:=by omega
 have n0:(0:Int)<=(n:Int):=by omega
 have n1:(n:Int) < 11:=by omega
 have hb:=bx x y (x ^^^ y) hx hy rfl;go_enter Tryz.func213,Tryz.ntmps213;go_upto_region 1 with (fail)
 go_quiet (fail);go_wp2;go_ret
 exact⟨rfl,aE (Below.refl _ _) _⟩
def wV (k:Nat):Nat:=if k=0 then 2 else if k=1 then 3 else 1
def mQ (b:Nat->Nat) (i:Nat):Nat->Nat
 | 0=>0
 | k+1=>mQ b i k ^^^ kt (wV k) (b (i / 4*4+(i+k) % 4))
theorem ss (b:Nat->Nat) (i:Nat):mQ b i 4=nl b i:=rfl
theorem qE (b:Nat->Nat) (i:Nat):∀k,mQ b i k < 256
 | 0=>show 0 < 256 by decide
 | k+1=>be (qE b i k) (gj _ _)
theorem xr (k:Nat):wV k < 256:=by unfold wV;split;decide;split<;>decide
theorem vo (i:Nat) (x:Int) (hi:i < 16) (b:Nat->Nat) (hb:br b) (fb bb:Nat) (w:World) (hf:ae w fb 304 #[.int .u8 2,.int .u8 3,.int .u8 1,.int .u8 1]) (hB:ae w bb 271 (ar b)) :
  Calls Tryz.prog 225 #[.int .i64 i,.int .u8 x,.pointer (some ⟨fb,0,none⟩),.pointer (some ⟨bb,0,none⟩)] w fun e w'=>e=.returned (.int .u8 (nl b i:Nat))/\w=w':=by
 have f0:=hf.cell 0;have f1:=hf.cell 1;have f2:=hf.cell 2;have f3:=hf.cell 3;simp at f0 f1 f2 f3;have HB:=Lib.hid hB;have HBB:=Lib.hid hb;obtain⟨iu,hiu,hius⟩:=iT;have HIX:=Lib.hid (fun(k:Nat) (hk:k < 4)=>gd (P:=Tryz.prog) 304 5 4 Tryz.underlying304 iu hiu hius .u8 Tryz.underlying5 #[.int .u8 2,.int .u8 3,.int .u8 1,.int .u8 1] k hk (.int .u8 (wV k:Nat)) (by rcases (by omega:k=0\/k=1\/k=2\/k=3)with rfl | rfl | rfl | rfl<;>rfl));have HM4:=Lib.hid (ss b i);have i0:(0:Int)<=(i:Int):=by omega
 have i1:(i:Int) < 16:=by omega
 clear hf hB hb hiu;go_enter Tryz.func225,Tryz.ntmps225;go_wp2;go_loop [6,10] (fun v6 v10=>∃k:Nat,k<=4/\v10=.int .i64 k/\v6=.int .u8 (mQ b i k:Nat)) (fun _ v10=>4-(intOf v10).toNat)
 case atStart=>exact⟨0,by omega,rfl,rfl⟩
 case round=>
  obtain⟨k,hk,rfl,rfl⟩:=hrel;by_cases hlt:k < 4
  ·have k0:(0:Int)<=(k:Int):=by omega
   have k1:(k:Int) < 4:=by omega
   have hix:=HIX.out k hlt;have hq:i / 4*4+(i+k) % 4 < 16:=by omega
   have c0:w.cell? ⟨bb,i / 4*4+(i+k) % 4,none⟩=some (.int .u8 (b (i / 4*4+(i+k) % 4):Nat)):=(HB.out.cell _).trans (aR b hq);have HMU:=Lib.hid (xa (wV k) (b (i / 4*4+(i+k) % 4)) (xr k) (HBB.out _ hq) w);have hx:=bx (mQ b i k) (kt (wV k) (b (i / 4*4+(i+k) % 4))) (mQ b i (k+1)) (qE b i k) (gj _ _) rfl;obtain⟨p,hp⟩:=af (mQ b i k)
   obtain⟨p',hp'⟩:=af (mQ b i (k+1))
   obtain⟨m,hm⟩:=af (kt (wV k) (b (i / 4*4+(i+k) % 4)))
   rw[<-hm]at HMU hx;rw[<-hp']at hx;rw[<-hp]at hx ⊢;have HP':=Lib.hid hp';clear hp hp' hm;go_wp2_with (go_at_call 226;refine(HMU.out).mono ?_;rintro e w2 ⟨rfl,rfl⟩);go_round
   case rel=>exact⟨k+1,by omega,by go_num,by rw[HP'.out]⟩
   case measure=>simp[intOf];omega
  ·obtain rfl:k=4:=by omega
   rw[HM4.out];go_wp2;go_ret
   exact⟨rfl,rfl⟩
end Go.Proofs.YtiiojpnckbglcaaGreat
