import Derived.Test.YtnadmdadcpemnaaGreatVAq
import Derived.Test.YtnadmdadcpemnaaGreatUq
namespace Go.Proofs.YtnadmdadcpemnaaGreat
set_option linter.unusedVariables false
set_option linter.unusedSimpArgs false
open Go.RowKit
theorem bx (a b c:Nat) (ha:a < 256) (hb:b < 256) (hc:a ^^^ b=c):bits .xor .u8 (a:Int) (b:Int)=(c:Int):=by rw[u8_xor_nat a b ha hb,hc]
theorem double_ok (a:Nat) (ha:a < 256) (w:World):Calls Tryz.prog 165 #[.int .u8 a] w fun e w'=>e=.returned (.int .u8 (dbl a:Nat))/\w=w':=by
 have hx:bits .xor .u8 ((a:Int)*2 % 256) ((a:Int) / 128*27)=((dbl a:Nat):Int):=by
  rw[show((a:Int)*2 % 256)=((a*2 % 256:Nat):Int) by omega,show((a:Int) / 128*27)=((a / 128*27 % 256:Nat):Int) by omega]
  exact bx _ _ _ (Nat.mod_lt _ (by decide)) (Nat.mod_lt _ (by decide)) rfl
 go_enter Tryz.func165,Tryz.ntmps165;go_wp2;go_ret
 exact⟨rfl,rfl⟩
theorem rotl1_ok (a:Nat) (ha:a < 256) (w:World):Calls Tryz.prog 164 #[.int .u8 a,.int .i64 1] w fun e w'=>e=.returned (.int .u8 (rl8 a 1:Nat))/\w=w':=by
 have hb:bits BinOp.and IntKind.u64 1 7=1:=by decide
 have hx:bits .or .u8 ((a:Int)*2 % 256) ((a:Int) / 128)=((rl8 a 1:Nat):Int):=by
  rw[show((a:Int)*2 % 256)=((a*2 % 256:Nat):Int) by omega,show((a:Int) / 128)=((a / 128:Nat):Int) by omega,u8_or_nat _ _ (Nat.mod_lt _ (by decide)) (by omega)]
  rfl
 go_enter Tryz.func164,Tryz.ntmps164;go_wp2;go_ret
 exact⟨rfl,rfl⟩
theorem rotl2_ok (a:Nat) (ha:a < 256) (w:World):Calls Tryz.prog 164 #[.int .u8 a,.int .i64 2] w fun e w'=>e=.returned (.int .u8 (rl8 a 2:Nat))/\w=w':=by
 have hb:bits BinOp.and IntKind.u64 2 7=2:=by decide
 have hx:bits .or .u8 ((a:Int)*4 % 256) ((a:Int) / 64)=((rl8 a 2:Nat):Int):=by
  rw[show((a:Int)*4 % 256)=((a*4 % 256:Nat):Int) by omega,show((a:Int) / 64)=((a / 64:Nat):Int) by omega,u8_or_nat _ _ (Nat.mod_lt _ (by decide)) (by omega)]
  rfl
 go_enter Tryz.func164,Tryz.ntmps164;go_wp2;go_ret
 exact⟨rfl,rfl⟩
theorem rotl3_ok (a:Nat) (ha:a < 256) (w:World):Calls Tryz.prog 164 #[.int .u8 a,.int .i64 3] w fun e w'=>e=.returned (.int .u8 (rl8 a 3:Nat))/\w=w':=by
 have hb:bits BinOp.and IntKind.u64 3 7=3:=by decide
 have hx:bits .or .u8 ((a:Int)*8 % 256) ((a:Int) / 32)=((rl8 a 3:Nat):Int):=by
  rw[show((a:Int)*8 % 256)=((a*8 % 256:Nat):Int) by omega,show((a:Int) / 32)=((a / 32:Nat):Int) by omega,u8_or_nat _ _ (Nat.mod_lt _ (by decide)) (by omega)]
  rfl
 go_enter Tryz.func164,Tryz.ntmps164;go_wp2;go_ret
 exact⟨rfl,rfl⟩
theorem rotl4_ok (a:Nat) (ha:a < 256) (w:World):Calls Tryz.prog 164 #[.int .u8 a,.int .i64 4] w fun e w'=>e=.returned (.int .u8 (rl8 a 4:Nat))/\w=w':=by
 have hb:bits BinOp.and IntKind.u64 4 7=4:=by decide
 have hx:bits .or .u8 ((a:Int)*16 % 256) ((a:Int) / 16)=((rl8 a 4:Nat):Int):=by
  rw[show((a:Int)*16 % 256)=((a*16 % 256:Nat):Int) by omega,show((a:Int) / 16)=((a / 16:Nat):Int) by omega,u8_or_nat _ _ (Nat.mod_lt _ (by decide)) (by omega)]
  rfl
 go_enter Tryz.func164,Tryz.ntmps164;go_wp2;go_ret
 exact⟨rfl,rfl⟩
theorem mul_ok (a b:Nat) (ha:a < 256) (hb:b < 256) (w:World):Calls Tryz.prog 186 #[.int .u8 a,.int .u8 b] w fun e w'=>e=.returned (.int .u8 (gmul a b:Nat))/\w=w':=by
 have HD:=Lib.hid (fun x hx=>double_ok x hx w);go_enter Tryz.func186,Tryz.ntmps186;go_wp2;go_loop [0,1,4] (fun v0 v1 v4=>∃k a' b' p:Nat,a' < 256/\b' < 2 ^ k/\k<=8/\p < 256/\v0=.int .u8 a'/\v1=.int .u8 b'/\v4=.int .u8 p/\mulF k a' b' p=gmul a b) (fun _ v1 _=>(intOf v1).toNat)
 case atStart=>exact⟨8,a,b,0,ha,by simpa using hb,by omega,by omega,rfl,rfl,rfl,rfl⟩
 case round=>
  obtain⟨k,a',b',p,h1,h2,h3,h4,rfl,rfl,rfl,h5⟩:=hrel;have HE:=Lib.hid h5;by_cases h0:b'=0
  ·subst h0;have HE2:=Lib.hid (show p=gmul a b by rw[<-h5,mulF_zero]);clear h5;go_wp2;go_ret
   exact⟨ret_int (by rw[HE2.out]),rfl⟩
  ·obtain⟨k,rfl⟩:∃j,k=j+1:=by
    cases k with
    | zero=>simp at h2;omega
    | succ k=>exact⟨k,rfl⟩
   have hb8:b' < 256:=by
    have:2 ^ (k+1)<=2 ^ 8:=Nat.pow_le_pow_right (by decide) h3;omega
   have h6:=mulF_step k a' b' p h2 h0;have hne:((b':Int) != 0)=true:=by simp;omega
   have hand:bits .and .u8 (b':Int) 1=((b' % 2:Nat):Int):=by
    have:=u8_and_nat b' 1 hb8 (by decide);rw[Nat.and_one_is_mod]at this
    exact this
   have hhalf:b' / 2 < 2 ^ k:=by rw[Nat.pow_succ]at h2;omega
   have HH:=Lib.hid hhalf;have HN:=Lib.hid (h6.symm.trans h5);clear h5 h6 h2 hhalf;go_wp2_with (go_at_call 165;refine(HD.out a' h1).mono ?_;rintro e w2 ⟨rfl,rfl⟩);have hx:bits .xor .u8 (p:Int) ((b':Int) % 2*(a':Int) % 256)=((p ^^^ (b' % 2*a' % 256):Nat):Int):=by
    rw[show((b':Int) % 2*(a':Int) % 256)=((b' % 2*a' % 256:Nat):Int) by rw[Int.natCast_emod,Int.natCast_mul,Int.natCast_emod];rfl]
    exact bx _ _ _ h4 (Nat.mod_lt _ (by decide)) rfl
   refine⟨⟨k,dbl a',b' / 2,p ^^^ (b' % 2*a' % 256),dbl_lt _,HH.out,by omega,xor_lt h4 (Nat.mod_lt _ (by decide)),rfl,(by rw[Int.natCast_ediv];rfl),by rw[hx],HN.out⟩,?_⟩;simp[intOf];omega
end Go.Proofs.YtnadmdadcpemnaaGreat
