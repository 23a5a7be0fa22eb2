import Derived.Test.YtnadmdadcpemnaaGreatVHq
set_option maxRecDepth 100000
namespace Go.Proofs.YtnadmdadcpemnaaGreat
set_option linter.unusedVariables false
set_option linter.unusedSimpArgs false
open Go.RowKit
attribute [local go_sem ↓] Go.wp_at_zero Go.wp_at_succ
def fac (k:Nat):Nat:=if k=0 then 2 else if k=1 then 3 else 1
def mixS (b:Nat->Nat) (i:Nat):Nat->Nat
 | 0=>0
 | k+1=>mixS b i k ^^^ gmul (fac k) (b (i / 4*4+(i+k) % 4))
theorem mixS_four (b:Nat->Nat) (i:Nat):mixS b i 4=mixAt b i:=rfl
theorem mixS_lt (b:Nat->Nat) (i:Nat):∀k,mixS b i k < 256
 | 0=>show 0 < 256 by decide
 | k+1=>xor_lt (mixS_lt b i k) (gmul_lt _ _)
theorem fac_lt (k:Nat):fac k < 256:=by unfold fac;split;decide;split<;>decide
theorem mixc_ok (i:Nat) (x:Int) (hi:i < 16) (b:Nat->Nat) (hb:B16 b) (fb bb:Nat) (w:World) (hf:Blk w fb 169 #[.int .u8 2,.int .u8 3,.int .u8 1,.int .u8 1]) (hB:Blk w bb 213 (b16 b)) :
  Calls Tryz.prog 185 #[.int .i64 i,.int .u8 x,.pointer (some ⟨fb,0,none⟩),.pointer (some ⟨bb,0,none⟩)] w fun e w'=>e=.returned (.int .u8 (mixAt b i:Nat))/\w=w':=by
 have f0:=hf.cell 0;have f1:=hf.cell 1;have f2:=hf.cell 2;have f3:=hf.cell 3;simp at f0 f1 f2 f3;have HB:=Lib.hid hB;have HBB:=Lib.hid hb;obtain⟨iu,hiu,hius⟩:=infoU8;have HIX:=Lib.hid (fun(k:Nat) (hk:k < 4)=>idx_arr (P:=Tryz.prog) 169 5 4 Tryz.underlying169 iu hiu hius .u8 Tryz.underlying5 #[.int .u8 2,.int .u8 3,.int .u8 1,.int .u8 1] k hk (.int .u8 (fac k:Nat)) (by rcases (by omega:k=0\/k=1\/k=2\/k=3)with rfl | rfl | rfl | rfl<;>rfl));have HM4:=Lib.hid (mixS_four b i);have i0:(0:Int)<=(i:Int):=by omega
 have i1:(i:Int) < 16:=by omega
 clear hf hB hb hiu;go_enter Tryz.func185,Tryz.ntmps185;go_wp2;go_loop [6,10] (fun v6 v10=>∃k:Nat,k<=4/\v10=.int .i64 k/\v6=.int .u8 (mixS b i k:Nat)) (fun _ v10=>4-(intOf v10).toNat)
 case atStart=>exact⟨0,by omega,rfl,rfl⟩
 case round=>
  obtain⟨k,hk,rfl,rfl⟩:=hrel;by_cases hlt:k < 4
  ·have k0:(0:Int)<=(k:Int):=by omega
   have k1:(k:Int) < 4:=by omega
   have hix:=HIX.out k hlt;have hq:i / 4*4+(i+k) % 4 < 16:=by omega
   have c0:w.cell? ⟨bb,i / 4*4+(i+k) % 4,none⟩=some (.int .u8 (b (i / 4*4+(i+k) % 4):Nat)):=(HB.out.cell _).trans (b16_at b hq);have HMU:=Lib.hid (mul_ok (fac k) (b (i / 4*4+(i+k) % 4)) (fac_lt k) (HBB.out _ hq) w);have hx:=bx (mixS b i k) (gmul (fac k) (b (i / 4*4+(i+k) % 4))) (mixS b i (k+1)) (mixS_lt b i k) (gmul_lt _ _) rfl;obtain⟨p,hp⟩:∃p,p=mixS b i k:=⟨_,rfl⟩
   obtain⟨p',hp'⟩:∃p',p'=mixS b i (k+1):=⟨_,rfl⟩
   obtain⟨m,hm⟩:∃m,m=gmul (fac k) (b (i / 4*4+(i+k) % 4)):=⟨_,rfl⟩
   rw[<-hm]at HMU hx;rw[<-hp']at hx;rw[<-hp]at hx ⊢;have HP':=Lib.hid hp';clear hp hp' hm;go_wp2_with (go_at_call 186;refine(HMU.out).mono ?_;rintro e w2 ⟨rfl,rfl⟩);go_round
   case rel=>exact⟨k+1,by omega,by go_num,by rw[HP'.out]⟩
   case measure=>simp[intOf];omega
  ·obtain rfl:k=4:=by omega
   rw[HM4.out];go_wp2;go_ret
   exact⟨rfl,rfl⟩
end Go.Proofs.YtnadmdadcpemnaaGreat
