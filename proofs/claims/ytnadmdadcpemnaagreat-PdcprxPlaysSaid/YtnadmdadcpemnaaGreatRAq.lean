import Derived.Test.YtnadmdadcpemnaaGreatVLq
import Derived.Test.YtnadmdadcpemnaaGreatVRq
set_option maxRecDepth 100000
set_option maxHeartbeats 1600000
namespace Go.Proofs.YtnadmdadcpemnaaGreat
set_option linter.unusedVariables false
set_option linter.unusedSimpArgs false
open Go.RowKit
attribute [local go_sem ↓] Go.wp_at_zero Go.wp_at_succ
theorem i64_xor_nat (a b:Nat) (ha:a < 4611686018427387904) (hb:b < 4611686018427387904):bits .xor .i64 (a:Int) (b:Int)=((a ^^^ b:Nat):Int):=by
 have h:a ^^^ b < 2 ^ 62:=Nat.xor_lt_two_pow (n:=62) ha hb;simp only[bits,BitVec.ofInt_natCast,BitVec.toNat_xor,BitVec.toNat_ofNat];rw[show IntKind.i64.bits=64 from rfl,Nat.mod_eq_of_lt (show a < 2 ^ 64 by omega),Nat.mod_eq_of_lt (show b < 2 ^ 64 by omega),IntKind.wrap_i64];omega
theorem i64_and_one (a:Nat) (ha:a < 4611686018427387904):bits .and .i64 (a:Int) 1=((a % 2:Nat):Int):=by
 have h:a % 2 < 2:=Nat.mod_lt _ (by decide);have e:bits .and .i64 (a:Int) ((1:Nat):Int)=((a % 2:Nat):Int):=by
  simp only[bits,BitVec.ofInt_natCast,BitVec.toNat_and,BitVec.toNat_ofNat];rw[show IntKind.i64.bits=64 from rfl,Nat.mod_eq_of_lt (show a < 2 ^ 64 by omega),show 1 % 2 ^ 64=1 from rfl,Nat.and_one_is_mod,IntKind.wrap_i64];omega
 exact e
theorem u8_and_one (a:Nat) (ha:a < 256):bits .and .u8 (a:Int) 1=((a % 2:Nat):Int):=by
 have:=u8_and_nat a 1 ha (by decide);rw[Nat.and_one_is_mod]at this
 exact this
theorem rm1_lt (a b:Nat) (ha:a < 256):∀i,i<=8->rm1 a b i < 32768
 | 0,_=>by show 0 < 32768;decide
 | i+1,h=>by
  have ih:=rm1_lt a b ha i (by omega);have h2:a*2 ^ i < 2 ^ 15:=by
   have:2 ^ i<=2 ^ 7:=Nat.pow_le_pow_right (by decide) (by omega);have:=Nat.mul_le_mul_left a this;omega
  unfold rm1
  split
  ·exact Nat.xor_lt_two_pow (n:=15) ih h2
  ·exact ih
theorem rm2_step_lt (k p:Nat) (hk:k<=6) (hp:p < 32768):(if p / 2 ^ (8+k) % 2=1 then p ^^^ (283*2 ^ k) else p) < 32768:=by
 split
 ·refine Nat.xor_lt_two_pow (n:=15) hp ?_;have:2 ^ k<=2 ^ 6:=Nat.pow_le_pow_right (by decide) hk;have:=Nat.mul_le_mul_left 283 this;omega
 ·exact hp
theorem rMul_lt (a b:Nat):rMul a b < 256:=Nat.mod_lt _ (by decide)
theorem rmul_ok (a b:Nat) (ha:a < 256) (hb:b < 256) (w:World):Calls Tryz.prog 91 #[.int .u8 a,.int .u8 b] w fun e w'=>e=.returned (.int .u8 (rMul a b:Nat))/\w=w':=by
 go_enter Tryz.func91,Tryz.ntmps91;go_wp2;go_loop [5,6] (fun v5 v6=>∃k:Nat,k<=8/\v6=.int .i64 k/\v5=.int .i64 (rm1 a b k:Nat)) (fun _ v6=>8-(intOf v6).toNat)
 case atStart=>exact⟨0,by omega,rfl,rfl⟩
 case round=>
  obtain⟨k,hk,rfl,rfl⟩:=hrel;have hp:=rm1_lt a b ha k hk;obtain⟨p,hpe⟩:∃p,p=rm1 a b k:=⟨_,rfl⟩
  have HP:=Lib.hid hpe;rw[<-hpe]at hp ⊢;clear hpe;by_cases hlt:k < 8
  ·have hq:((b:Int) / 2 ^ k)=((b / 2 ^ k:Nat):Int):=by simp
   have hql:b / 2 ^ k < 256:=Nat.lt_of_le_of_lt (Nat.div_le_self _ _) hb;have hand:=u8_and_one (b / 2 ^ k) hql;have hsh:((a:Int)*2 ^ k)=((a*2 ^ k:Nat):Int):=by simp
   have hsl:a*2 ^ k < 32768:=by
    have:2 ^ k<=2 ^ 7:=Nat.pow_le_pow_right (by decide) (by omega);have:=Nat.mul_le_mul_left a this;omega
   have hxor:=i64_xor_nat p (a*2 ^ k) (by omega) (by omega);obtain⟨q,hqe⟩:∃q,q=b / 2 ^ k:=⟨_,rfl⟩
   obtain⟨s,hse⟩:∃s,s=a*2 ^ k:=⟨_,rfl⟩
   rw[<-hqe]at hq hand;rw[<-hse]at hsh hxor hsl;have HQ:=Lib.hid hqe;have HS:=Lib.hid hse;clear hqe hse;by_cases hbit:q % 2=1
   ·have HN:Hid (rm1 a b (k+1)=p ^^^ s):=Lib.hid (by
     unfold rm1;rw[<-HQ.out,if_pos hbit,<-HP.out,<-HS.out])
    have htst:(bits .and .u8 (q:Int) 1 == 1)=true:=by rw[hand,hbit];rfl
    go_wp2;go_round
    case rel=>exact⟨k+1,by omega,by go_num,by rw[HN.out]⟩
    case measure=>simp[intOf];omega
   ·have HN:Hid (rm1 a b (k+1)=p):=Lib.hid (by
     unfold rm1;rw[<-HQ.out,if_neg hbit,<-HP.out])
    have htst:(bits .and .u8 (q:Int) 1 == 1)=false:=by rw[hand];simp;omega
    go_wp2;go_round
    case rel=>exact⟨k+1,by omega,by go_num,by rw[HN.out]⟩
    case measure=>simp[intOf];omega
  ·obtain rfl:k=8:=by omega
   go_wp2;go_loop [5,7] (fun v5 v7=>∃k p':Nat,k<=7/\p' < 32768/\v7=.int .i64 (7+k:Nat)/\v5=.int .i64 p'/\rm2 k p'=rm2 7 p) (fun _ v7=>(intOf v7).toNat-7)
   case atStart=>exact⟨7,p,by omega,hp,rfl,rfl,rfl⟩
   case round=>
    obtain⟨k,r,hk,hr,rfl,rfl,he⟩:=hrel;have HE:=Lib.hid he;clear he
    cases k with
    | zero=>
     have HR:Hid (((r:Int) % 256)=((rMul a b:Nat):Int)):=Lib.hid (by
      have:r=rm2 7 (rm1 a b 8):=by rw[<-HP.out,<-HE.out];rfl
      unfold rMul;rw[<-this]
      rfl)
     go_wp2;go_ret
     exact⟨ret_int (by rw[<-HR.out]),rfl⟩
    | succ k=>
     obtain⟨n,hn⟩:∃n,n=8+k:=⟨_,rfl⟩
     have hql:r / 2 ^ n < 32768:=Nat.lt_of_le_of_lt (Nat.div_le_self _ _) hr;have hand:=i64_and_one (r / 2 ^ n) (by omega);have hsl:283*2 ^ k < 32768:=by
      have:2 ^ k<=2 ^ 6:=Nat.pow_le_pow_right (by decide) (by omega);have:=Nat.mul_le_mul_left 283 this;omega
     have hxor:=i64_xor_nat r (283*2 ^ k) (by omega) (by omega);have hst:=rm2_step_lt k r (by omega) hr;rw[<-hn]at hst;have e7:7+(k+1)=n:=by omega
     rw[e7];have hq:((r:Int) / 2 ^ n)=((r / 2 ^ n:Nat):Int):=by simp
     have hsh:((283:Int)*2 ^ k)=((283*2 ^ k:Nat):Int):=by simp
     have n0:(8:Int)<=(n:Int):=by omega
     have n1:(n:Int)<=14:=by omega
     have s1:((n:Int)-8).toNat=k:=by omega
     obtain⟨q,hqe⟩:∃q,q=r / 2 ^ n:=⟨_,rfl⟩
     obtain⟨s,hse⟩:∃s,s=283*2 ^ k:=⟨_,rfl⟩
     rw[<-hqe]at hq hand hst;rw[<-hse]at hsh hxor hsl hst;have HS:=Lib.hid hst;have HQ:=Lib.hid hqe;have HSS:=Lib.hid hse;have HNN:=Lib.hid hn;have HE2:Hid (rm2 (k+1) r=rm2 k (if q % 2=1 then r ^^^ s else r)):=Lib.hid (by rw[hqe,hse,hn];rfl);clear hqe hse hst e7 hn;by_cases hbit:q % 2=1
     ·have HN:Hid (rm2 k (r ^^^ s)=rm2 7 p):=Lib.hid (by
       have:=HE.out;rw[HE2.out,if_pos hbit]at this
       exact this)
      have HSL:Hid (r ^^^ s < 32768):=Lib.hid (by have:=HS.out;rwa [if_pos hbit]at this);have htst:(bits .and .i64 (q:Int) 1 == 1)=true:=by rw[hand,hbit];rfl
      go_wp2;go_round
      case rel=>exact⟨k,r ^^^ s,by omega,HSL.out,(by rw[HNN.out];go_num),rfl,HN.out⟩
      case measure=>simp[intOf];omega
     ·have HN:Hid (rm2 k r=rm2 7 p):=Lib.hid (by
       have:=HE.out;rw[HE2.out,if_neg hbit]at this
       exact this)
      have htst:(bits .and .i64 (q:Int) 1 == 1)=false:=by rw[hand];simp;omega
      go_wp2;go_round
      case rel=>exact⟨k,r,by omega,hr,(by rw[HNN.out];go_num),rfl,HN.out⟩
      case measure=>simp[intOf];omega
theorem rInv_lt (a:Nat) (ha:a < 256):∀i,(rInv a i).1 < 256/\(rInv a i).2 < 256
 | 0=>⟨ha,by show 1 < 256;decide⟩
 | i+1=>⟨rMul_lt _ _,rMul_lt _ _⟩
theorem rinv_ok (a:Nat) (ha:a < 256) (w:World):Calls Tryz.prog 109 #[.int .u8 a] w fun e w'=>e=.returned (.int .u8 ((rInv a 7).2:Nat))/\w=w':=by
 have HM:=Lib.hid (fun x y hx hy=>rmul_ok x y hx hy w);go_enter Tryz.func109,Tryz.ntmps109;go_wp2;go_loop [0,3,4] (fun v0 v3 v4=>∃k:Nat,k<=7/\v4=.int .i64 k/\v0=.int .u8 ((rInv a k).1:Nat)/\v3=.int .u8 ((rInv a k).2:Nat)) (fun _ _ v4=>7-(intOf v4).toNat)
 case atStart=>exact⟨0,by omega,rfl,rfl,rfl⟩
 case round=>
  obtain⟨k,hk,rfl,rfl,rfl⟩:=hrel;by_cases hlt:k < 7
  ·have hl:=rInv_lt a ha k;have HM1:=Lib.hid (HM.out _ _ hl.1 hl.1);have HM2:=Lib.hid (HM.out _ _ hl.2 (rMul_lt (rInv a k).1 (rInv a k).1));obtain⟨x,hx⟩:∃x,x=(rInv a k).1:=⟨_,rfl⟩
   obtain⟨y,hy⟩:∃y,y=(rInv a k).2:=⟨_,rfl⟩
   obtain⟨s,hs⟩:∃s,s=rMul x x:=⟨_,rfl⟩
   have H1:Hid ((rInv a (k+1)).1=s):=Lib.hid (by rw[hs,hx];rfl);have H2:Hid ((rInv a (k+1)).2=rMul y s):=Lib.hid (by rw[hs,hy,hx];rfl);rw[<-hx]at HM1 HM2 hl ⊢;rw[<-hy]at HM2 hl ⊢;rw[<-hs]at HM1 HM2;clear hx hy hs;go_wp2_with (first | (go_at_call 91;with_reducible refine(HM1.out).mono ?_;rintro e w2 ⟨rfl,rfl⟩) | (go_at_call 91;with_reducible refine(HM2.out).mono ?_;rintro e w2 ⟨rfl,rfl⟩));go_round
   case rel=>exact⟨k+1,by omega,by go_num,by rw[H1.out],by rw[H2.out]⟩
   case measure=>simp[intOf];omega
  ·obtain rfl:k=7:=by omega
   go_wp2;go_ret
   exact⟨rfl,rfl⟩
theorem rOut_lt (v:Nat):∀i,rOut v i < 256
 | 0=>by show 0 < 256;decide
 | i+1=>Nat.or_lt_two_pow (n:=8) (rOut_lt v i) (Nat.mod_lt _ (by decide))
theorem bor (a b c:Nat) (ha:a < 256) (hb:b < 256) (hc:a ||| b=c):bits .or .u8 (a:Int) (b:Int)=(c:Int):=by rw[u8_or_nat a b ha hb,hc]
theorem rsbox_ok (b:Nat) (hb:b < 256) (w:World):Calls Tryz.prog 90 #[.int .u8 b] w fun e w'=>e=.returned (.int .u8 (sbx b:Nat))/\∃d,w'=w.drewN d:=by
 have HI:=Lib.hid (rinv_ok b hb w);have HV:=(rInv_lt b hb 7).2;obtain⟨v,hv⟩:∃v,v=(rInv b 7).2:=⟨_,rfl⟩
 have HE:Hid (sbx b=rOut v 8):=Lib.hid (by rw[<-rSBox_eq b hb,hv];rfl);rw[<-hv]at HI HV;rw[HE.out];clear hv HE hb;go_enter Tryz.func90,Tryz.ntmps90;go_wp2_with (go_at_call 109;with_reducible refine(HI.out).mono ?_;rintro e w2 ⟨rfl,rfl⟩);go_loopw [4,5,6] (fun v4 v5 v6 wr=>∃k d:Nat,k<=8/\v5=.int .i64 k/\v4=.int .u8 (rOut v k:Nat)/\wr=w.drewN d) (fun _ v5 _ _=>8-(intOf v5).toNat)
 case atStart=>exact⟨0,0,by omega,rfl,rfl,rfl⟩
 case round=>
  obtain⟨k,d,hk,rfl,rfl,hw⟩:=hrel;have HW:=Lib.hid hw;clear hw;have hr:=rOut_lt v k;by_cases hlt:k < 8
  ·have k0:(0:Int)<=(k:Int):=by omega
   have k8:(k:Int) < 8:=by omega
   have d0:((v:Int) / 2 ^ k)=((v / 2 ^ k:Nat):Int):=by simp
   have d4:((v:Int) / 2 ^ ((k+4) % 8))=((v / 2 ^ ((k+4) % 8):Nat):Int):=by simp
   have d5:((v:Int) / 2 ^ ((k+5) % 8))=((v / 2 ^ ((k+5) % 8):Nat):Int):=by simp
   have d6:((v:Int) / 2 ^ ((k+6) % 8))=((v / 2 ^ ((k+6) % 8):Nat):Int):=by simp
   have d7:((v:Int) / 2 ^ ((k+7) % 8))=((v / 2 ^ ((k+7) % 8):Nat):Int):=by simp
   have d9:((99:Int) / 2 ^ k)=((99 / 2 ^ k:Nat):Int):=by simp
   have hl:∀m,v / 2 ^ m < 256:=fun m=>Nat.lt_of_le_of_lt (Nat.div_le_self _ _) HV;have h9:99 / 2 ^ k < 256:=Nat.lt_of_le_of_lt (Nat.div_le_self _ _) (by decide);have x1:=bx _ _ _ (hl k) (hl ((k+4) % 8)) rfl;have x2:=bx _ _ _ (xor_lt (hl k) (hl ((k+4) % 8))) (hl ((k+5) % 8)) rfl;have x3:=bx _ _ _ (xor_lt (xor_lt (hl k) (hl ((k+4) % 8))) (hl ((k+5) % 8))) (hl ((k+6) % 8)) rfl;have x4:=bx _ _ _ (xor_lt (xor_lt (xor_lt (hl k) (hl ((k+4) % 8))) (hl ((k+5) % 8))) (hl ((k+6) % 8))) (hl ((k+7) % 8)) rfl;have hr5:=xor_lt (xor_lt (xor_lt (xor_lt (hl k) (hl ((k+4) % 8))) (hl ((k+5) % 8))) (hl ((k+6) % 8))) (hl ((k+7) % 8));have x5:=bx _ _ _ hr5 h9 rfl;have hr6:=xor_lt hr5 h9;have HN:Hid (rOut v (k+1)=rOut v k ||| ((v / 2 ^ k ^^^ v / 2 ^ ((k+4) % 8) ^^^ v / 2 ^ ((k+5) % 8) ^^^ v / 2 ^ ((k+6) % 8) ^^^ v / 2 ^ ((k+7) % 8) ^^^ 99 / 2 ^ k) % 2*2 ^ k % 256)):=Lib.hid rfl;clear hr5;generalize v / 2 ^ k ^^^ v / 2 ^ ((k+4) % 8) ^^^ v / 2 ^ ((k+5) % 8) ^^^ v / 2 ^ ((k+6) % 8) ^^^ v / 2 ^ ((k+7) % 8) ^^^ 99 / 2 ^ k=y5 at x5 HN hr6;generalize v / 2 ^ k ^^^ v / 2 ^ ((k+4) % 8) ^^^ v / 2 ^ ((k+5) % 8) ^^^ v / 2 ^ ((k+6) % 8) ^^^ v / 2 ^ ((k+7) % 8)=y4 at x4 x5;generalize v / 2 ^ k ^^^ v / 2 ^ ((k+4) % 8) ^^^ v / 2 ^ ((k+5) % 8) ^^^ v / 2 ^ ((k+6) % 8)=y3 at x3 x4;generalize v / 2 ^ k ^^^ v / 2 ^ ((k+4) % 8) ^^^ v / 2 ^ ((k+5) % 8)=y2 at x2 x3;generalize v / 2 ^ k ^^^ v / 2 ^ ((k+4) % 8)=y1 at x1 x2;have hand:=u8_and_one y5 hr6;have hsh:((y5:Int) % 2*2 ^ k) % 256=((y5 % 2*2 ^ k % 256:Nat):Int):=by simp
   have hor:=bor (rOut v k) (y5 % 2*2 ^ k % 256) _ hr (Nat.mod_lt _ (by decide)) rfl;rw[<-HN.out]at hor;generalize y5 % 2*2 ^ k % 256=sh at hsh hor;generalize hout2:rOut v (k+1)=out2 at hor HN;have HOUT2:=Lib.hid hout2;clear hout2;generalize rOut v k=out1 at hor HN hr ⊢;clear hl h9;generalize v / 2 ^ k=q0 at d0 x1;generalize v / 2 ^ ((k+4) % 8)=q4 at d4 x1;generalize v / 2 ^ ((k+5) % 8)=q5 at d5 x2;generalize v / 2 ^ ((k+6) % 8)=q6 at d6 x3;generalize v / 2 ^ ((k+7) % 8)=q7 at d7 x4;generalize 99 / 2 ^ k=q9 at d9 x5;go_upto_region 6 with (fail)
   go_quiet (fail);clear d0 d4 d5 d6 d7 d9 x1 x2 x3 x4;go_wp2;go_roundw
   case rel=>exact⟨k+1,d+nq,by omega,by go_num,by rw[HOUT2.out],by rw[HW.out,World.drewN_drewN]⟩
   case measure=>simp[intOf];omega
  ·obtain rfl:k=8:=by omega
   go_wp2;go_ret
   exact⟨rfl,d,HW.out⟩
end Go.Proofs.YtnadmdadcpemnaaGreat
