import Derived.Test.YtnadmdadcpemnaaGreatMDJx
import Derived.Lib.BitFns
import Derived.Laws.Bits64
import Derived.Laws.Bits64b
namespace Go.Proofs.YtnadmdadcpemnaaGreat
open Go.RowKit Go.Sort
set_option linter.unusedVariables false
set_option linter.unusedSimpArgs false
attribute [local go_sem ↓] Go.wp_at_zero Go.wp_at_succ
set_option maxRecDepth 1000000 in
set_option maxHeartbeats 16000000 in
theorem len_0 (x:Nat) (h0:0≤x) (hx:x < 32) (w:World):Calls Tryz.prog 120 #[.int .u64 x] w fun e w'=>e=.returned (.int .i64 (Lib.bitLen x))∧w'=w:=by
 rcases (by omega:x=0∨x=1∨x=2∨x=3∨x=4∨x=5∨x=6∨x=7∨x=8∨x=9∨x=10∨x=11∨x=12∨x=13∨x=14∨x=15∨x=16∨x=17∨x=18∨x=19∨x=20∨x=21∨x=22∨x=23∨x=24∨x=25∨x=26∨x=27∨x=28∨x=29∨x=30∨x=31)with rfl | rfl | rfl | rfl | rfl | rfl | rfl | rfl | rfl | rfl | rfl | rfl | rfl | rfl | rfl | rfl | rfl | rfl | rfl | rfl | rfl | rfl | rfl | rfl | rfl | rfl | rfl | rfl | rfl | rfl | rfl | rfl
 all_goals
  clear h0 hx
  go_enter Tryz.func120,Tryz.ntmps120
  go_wp2
  go_ret
  exact⟨by kernel_rfl,rfl⟩
set_option maxRecDepth 1000000 in
set_option maxHeartbeats 16000000 in
theorem len_32 (x:Nat) (h0:32≤x) (hx:x < 64) (w:World):Calls Tryz.prog 120 #[.int .u64 x] w fun e w'=>e=.returned (.int .i64 (Lib.bitLen x))∧w'=w:=by
 rcases (by omega:x=32∨x=33∨x=34∨x=35∨x=36∨x=37∨x=38∨x=39∨x=40∨x=41∨x=42∨x=43∨x=44∨x=45∨x=46∨x=47∨x=48∨x=49∨x=50∨x=51∨x=52∨x=53∨x=54∨x=55∨x=56∨x=57∨x=58∨x=59∨x=60∨x=61∨x=62∨x=63)with rfl | rfl | rfl | rfl | rfl | rfl | rfl | rfl | rfl | rfl | rfl | rfl | rfl | rfl | rfl | rfl | rfl | rfl | rfl | rfl | rfl | rfl | rfl | rfl | rfl | rfl | rfl | rfl | rfl | rfl | rfl | rfl
 all_goals
  clear h0 hx
  go_enter Tryz.func120,Tryz.ntmps120
  go_wp2
  go_ret
  exact⟨by kernel_rfl,rfl⟩
set_option maxRecDepth 1000000 in
set_option maxHeartbeats 16000000 in
theorem len_64 (x:Nat) (h0:64≤x) (hx:x < 96) (w:World):Calls Tryz.prog 120 #[.int .u64 x] w fun e w'=>e=.returned (.int .i64 (Lib.bitLen x))∧w'=w:=by
 rcases (by omega:x=64∨x=65∨x=66∨x=67∨x=68∨x=69∨x=70∨x=71∨x=72∨x=73∨x=74∨x=75∨x=76∨x=77∨x=78∨x=79∨x=80∨x=81∨x=82∨x=83∨x=84∨x=85∨x=86∨x=87∨x=88∨x=89∨x=90∨x=91∨x=92∨x=93∨x=94∨x=95)with rfl | rfl | rfl | rfl | rfl | rfl | rfl | rfl | rfl | rfl | rfl | rfl | rfl | rfl | rfl | rfl | rfl | rfl | rfl | rfl | rfl | rfl | rfl | rfl | rfl | rfl | rfl | rfl | rfl | rfl | rfl | rfl
 all_goals
  clear h0 hx
  go_enter Tryz.func120,Tryz.ntmps120
  go_wp2
  go_ret
  exact⟨by kernel_rfl,rfl⟩
set_option maxRecDepth 1000000 in
set_option maxHeartbeats 16000000 in
theorem len_96 (x:Nat) (h0:96≤x) (hx:x < 128) (w:World):Calls Tryz.prog 120 #[.int .u64 x] w fun e w'=>e=.returned (.int .i64 (Lib.bitLen x))∧w'=w:=by
 rcases (by omega:x=96∨x=97∨x=98∨x=99∨x=100∨x=101∨x=102∨x=103∨x=104∨x=105∨x=106∨x=107∨x=108∨x=109∨x=110∨x=111∨x=112∨x=113∨x=114∨x=115∨x=116∨x=117∨x=118∨x=119∨x=120∨x=121∨x=122∨x=123∨x=124∨x=125∨x=126∨x=127)with rfl | rfl | rfl | rfl | rfl | rfl | rfl | rfl | rfl | rfl | rfl | rfl | rfl | rfl | rfl | rfl | rfl | rfl | rfl | rfl | rfl | rfl | rfl | rfl | rfl | rfl | rfl | rfl | rfl | rfl | rfl | rfl
 all_goals
  clear h0 hx
  go_enter Tryz.func120,Tryz.ntmps120
  go_wp2
  go_ret
  exact⟨by kernel_rfl,rfl⟩
set_option maxRecDepth 1000000 in
set_option maxHeartbeats 16000000 in
theorem len_128 (x:Nat) (h0:128≤x) (hx:x < 160) (w:World):Calls Tryz.prog 120 #[.int .u64 x] w fun e w'=>e=.returned (.int .i64 (Lib.bitLen x))∧w'=w:=by
 rcases (by omega:x=128∨x=129∨x=130∨x=131∨x=132∨x=133∨x=134∨x=135∨x=136∨x=137∨x=138∨x=139∨x=140∨x=141∨x=142∨x=143∨x=144∨x=145∨x=146∨x=147∨x=148∨x=149∨x=150∨x=151∨x=152∨x=153∨x=154∨x=155∨x=156∨x=157∨x=158∨x=159)with rfl | rfl | rfl | rfl | rfl | rfl | rfl | rfl | rfl | rfl | rfl | rfl | rfl | rfl | rfl | rfl | rfl | rfl | rfl | rfl | rfl | rfl | rfl | rfl | rfl | rfl | rfl | rfl | rfl | rfl | rfl | rfl
 all_goals
  clear h0 hx
  go_enter Tryz.func120,Tryz.ntmps120
  go_wp2
  go_ret
  exact⟨by kernel_rfl,rfl⟩
set_option maxRecDepth 1000000 in
set_option maxHeartbeats 16000000 in
theorem len_160 (x:Nat) (h0:160≤x) (hx:x < 192) (w:World):Calls Tryz.prog 120 #[.int .u64 x] w fun e w'=>e=.returned (.int .i64 (Lib.bitLen x))∧w'=w:=by
 rcases (by omega:x=160∨x=161∨x=162∨x=163∨x=164∨x=165∨x=166∨x=167∨x=168∨x=169∨x=170∨x=171∨x=172∨x=173∨x=174∨x=175∨x=176∨x=177∨x=178∨x=179∨x=180∨x=181∨x=182∨x=183∨x=184∨x=185∨x=186∨x=187∨x=188∨x=189∨x=190∨x=191)with rfl | rfl | rfl | rfl | rfl | rfl | rfl | rfl | rfl | rfl | rfl | rfl | rfl | rfl | rfl | rfl | rfl | rfl | rfl | rfl | rfl | rfl | rfl | rfl | rfl | rfl | rfl | rfl | rfl | rfl | rfl | rfl
 all_goals
  clear h0 hx
  go_enter Tryz.func120,Tryz.ntmps120
  go_wp2
  go_ret
  exact⟨by kernel_rfl,rfl⟩
set_option maxRecDepth 1000000 in
set_option maxHeartbeats 16000000 in
theorem len_192 (x:Nat) (h0:192≤x) (hx:x < 224) (w:World):Calls Tryz.prog 120 #[.int .u64 x] w fun e w'=>e=.returned (.int .i64 (Lib.bitLen x))∧w'=w:=by
 rcases (by omega:x=192∨x=193∨x=194∨x=195∨x=196∨x=197∨x=198∨x=199∨x=200∨x=201∨x=202∨x=203∨x=204∨x=205∨x=206∨x=207∨x=208∨x=209∨x=210∨x=211∨x=212∨x=213∨x=214∨x=215∨x=216∨x=217∨x=218∨x=219∨x=220∨x=221∨x=222∨x=223)with rfl | rfl | rfl | rfl | rfl | rfl | rfl | rfl | rfl | rfl | rfl | rfl | rfl | rfl | rfl | rfl | rfl | rfl | rfl | rfl | rfl | rfl | rfl | rfl | rfl | rfl | rfl | rfl | rfl | rfl | rfl | rfl
 all_goals
  clear h0 hx
  go_enter Tryz.func120,Tryz.ntmps120
  go_wp2
  go_ret
  exact⟨by kernel_rfl,rfl⟩
set_option maxRecDepth 1000000 in
set_option maxHeartbeats 16000000 in
theorem len_224 (x:Nat) (h0:224≤x) (hx:x < 256) (w:World):Calls Tryz.prog 120 #[.int .u64 x] w fun e w'=>e=.returned (.int .i64 (Lib.bitLen x))∧w'=w:=by
 rcases (by omega:x=224∨x=225∨x=226∨x=227∨x=228∨x=229∨x=230∨x=231∨x=232∨x=233∨x=234∨x=235∨x=236∨x=237∨x=238∨x=239∨x=240∨x=241∨x=242∨x=243∨x=244∨x=245∨x=246∨x=247∨x=248∨x=249∨x=250∨x=251∨x=252∨x=253∨x=254∨x=255)with rfl | rfl | rfl | rfl | rfl | rfl | rfl | rfl | rfl | rfl | rfl | rfl | rfl | rfl | rfl | rfl | rfl | rfl | rfl | rfl | rfl | rfl | rfl | rfl | rfl | rfl | rfl | rfl | rfl | rfl | rfl | rfl
 all_goals
  clear h0 hx
  go_enter Tryz.func120,Tryz.ntmps120
  go_wp2
  go_ret
  exact⟨by kernel_rfl,rfl⟩
theorem len64_ok (x:Nat) (hx:x≤255) (w:World):Calls Tryz.prog 120 #[.int .u64 x] w fun e w'=>e=.returned (.int .i64 (Lib.bitLen x))∧w'=w:=by
 rcases (by omega:(0≤x∧x < 32)∨(32≤x∧x < 64)∨(64≤x∧x < 96)∨(96≤x∧x < 128)∨(128≤x∧x < 160)∨(160≤x∧x < 192)∨(192≤x∧x < 224)∨(224≤x∧x < 256))with h | h | h | h | h | h | h | h
 ·exact len_0 x h.1 h.2 w
 ·exact len_32 x h.1 h.2 w
 ·exact len_64 x h.1 h.2 w
 ·exact len_96 x h.1 h.2 w
 ·exact len_128 x h.1 h.2 w
 ·exact len_160 x h.1 h.2 w
 ·exact len_192 x h.1 h.2 w
 ·exact len_224 x h.1 h.2 w
theorem blen_ok (x:Nat) (hx:x≤255) (w:World):Calls Tryz.prog 94 #[.int .u64 x] w fun e w'=>e=.returned (.int .i64 (Lib.bitLen x))∧w'=w:=by
 have HL:=Lib.hid (fun V=>len64_ok x hx V)
 have x0:(0:Int)≤(x:Int):=by omega
 have x1:(x:Int)≤255:=by omega
 go_enter Tryz.func94,Tryz.ntmps94
 go_wp2_with (go_at_call 120;refine(HL.out _).mono ?_;rintro e w1 ⟨rfl,rfl⟩)
 go_ret
 exact⟨rfl,rfl⟩
end Go.Proofs.YtnadmdadcpemnaaGreat
namespace Go.Proofs.YtnadmdadcpemnaaGreat
open Go.RowKit Go.Sort
set_option linter.unusedVariables false
set_option linter.unusedSimpArgs false
attribute [local go_sem ↓] Go.wp_at_zero Go.wp_at_succ
theorem pow_len:∀n:Fin 256,0 < n.val→2 ^ Lib.bitLen n.val≤2*n.val∧Lib.bitLen n.val≤8:=by decide +kernel
def nxA (X:Nat):Nat:=X ^^^ (X*8192 % 18446744073709551616)
def nxB (A:Nat):Nat:=A ^^^ (A / 128)
def nxC (B:Nat):Nat:=B ^^^ (B*131072 % 18446744073709551616)
theorem nxA_lt {X:Nat} (h:X < 18446744073709551616):nxA X < 18446744073709551616:=Nat.xor_lt_two_pow (n:=64) h (by omega)
theorem nxB_lt {X:Nat} (h:X < 18446744073709551616):nxB X < 18446744073709551616:=Nat.xor_lt_two_pow (n:=64) h (by omega)
theorem nxC_lt {X:Nat} (h:X < 18446744073709551616):nxC X < 18446744073709551616:=Nat.xor_lt_two_pow (n:=64) h (by omega)
set_option maxRecDepth 1000000 in
set_option maxHeartbeats 4000000 in
theorem next_ok (rb X:Nat) (hX:X < 18446744073709551616) (w:World) (h:Blk w rb 203 #[.int .u64 X]) :
  Calls Tryz.prog 139 #[.pointer (some ⟨rb,0,none⟩)] w fun e w'=>∃v:Nat,v < 18446744073709551616∧e=.returned (.int .u64 v)∧Blk w' rb 203 #[.int .u64 v]∧KeepF (fun k=>k=rb) w w':=by
 have HB:=Lib.hid h
 have c0:=h.cell 0
 have f0:=h.frozen 0
 simp at c0
 obtain⟨A,hA⟩:∃A,A=nxA X:=⟨_,rfl⟩
 obtain⟨Bv,hB⟩:∃B,B=nxB A:=⟨_,rfl⟩
 obtain⟨C,hC⟩:∃C,C=nxC Bv:=⟨_,rfl⟩
 have lA:A < 18446744073709551616:=by rw[hA];exact nxA_lt hX
 have lB:Bv < 18446744073709551616:=by rw[hB];exact nxB_lt lA
 have lC:C < 18446744073709551616:=by rw[hC];exact nxC_lt lB
 have e1:bits .xor .u64 (X:Int) (IntKind.u64.wrap ((X:Int)*8192))=(A:Int):=by
  rw[IntKind.wrap_u64,show((X:Int)*8192 % 18446744073709551616)=((X*8192 % 18446744073709551616:Nat):Int) by omega,bits_xor_u64_nat _ _ hX (by omega),hA]
  rfl
 have e2:bits .xor .u64 (A:Int) ((A:Int) / 128)=(Bv:Int):=by
  rw[show((A:Int) / 128)=((A / 128:Nat):Int) by omega,bits_xor_u64_nat _ _ lA (by omega),hB]
  rfl
 have e3:bits .xor .u64 (Bv:Int) (IntKind.u64.wrap ((Bv:Int)*131072))=(C:Int):=by
  rw[IntKind.wrap_u64,show((Bv:Int)*131072 % 18446744073709551616)=((Bv*131072 % 18446744073709551616:Nat):Int) by omega,bits_xor_u64_nat _ _ lB (by omega),hC]
  rfl
 have HLC:=Lib.hid lC
 have HST:=Lib.hid (show ∀(V:World) (X v:Int) (q:Nat),Blk V rb 203 #[.int .u64 X]→KeepF (fun k=>k=rb) w V→Blk ((V.drewN q).setCell ⟨rb,0,none⟩ (.int .u64 v)) rb 203 #[.int .u64 v]∧KeepF (fun k=>k=rb) w ((V.drewN q).setCell ⟨rb,0,none⟩ (.int .u64 v))from fun V X v q hV hK=>⟨by
  have:=(show Blk (V.drewN q) rb 203 #[.int .u64 X]from hV).set_ 0 (.int .u64 v)
  simpa using this,(hK.drewN q).setCell (p:=⟨rb,0,none⟩) rfl _⟩)
 clear hA hB hC lA lB lC hX h
 go_enter Tryz.func139,Tryz.ntmps139
 go_wp2
 go_region
 all_goals go_wp2
 refine wp_let (fun V=>Blk V rb 203 #[.int .u64 A]∧KeepF (fun k=>k=rb) w V) (HST.out _ _ _ 1 HB.out KeepF.refl) ?_
 rintro w1 ⟨b,k⟩
 have B1:=Lib.hid b
 have K1:=Lib.hid k
 clear c0 f0
 have c0:=b.cell 0
 have f0:=b.frozen 0
 simp at c0
 clear b k
 go_region
 all_goals go_wp2
 refine wp_let (fun V=>Blk V rb 203 #[.int .u64 Bv]∧KeepF (fun k=>k=rb) w V) (HST.out _ _ _ 1 B1.out K1.out) ?_
 rintro w2 ⟨b,k⟩
 have B2:=Lib.hid b
 have K2:=Lib.hid k
 clear c0 f0
 have c0:=b.cell 0
 have f0:=b.frozen 0
 simp at c0
 clear b k
 go_region
 all_goals go_wp2
 go_ret
 obtain⟨b,k⟩:=HST.out _ _ C 1 B2.out K2.out
 exact⟨C,HLC.out,rfl,b,k⟩
end Go.Proofs.YtnadmdadcpemnaaGreat
namespace Go.Proofs.YtnadmdadcpemnaaGreat
open Go.RowKit Go.Sort
set_option linter.unusedVariables false
set_option linter.unusedSimpArgs false
attribute [local go_sem ↓] Go.wp_at_zero Go.wp_at_succ
theorem wrap_pow (k:Nat) (hk:k≤8):IntKind.u64.wrap ((2:Int) ^ k)=((2 ^ k:Nat):Int):=by
 have h:(2:Nat) ^ k≤2 ^ 8:=Nat.pow_le_pow_right (by decide) hk
 have e:((2:Int) ^ k)=((2 ^ k:Nat):Int):=by push_cast;rfl
 rw[IntKind.wrap_u64,e]
 generalize (2:Nat) ^ k=p at h
 omega
theorem npow_ok (n:Nat) (h0:0 < n) (hn:n≤255) (w:World):Calls Tryz.prog 138 #[.int .i64 n] w fun e w'=>e=.returned (.int .u64 ((2 ^ Lib.bitLen n:Nat):Int))∧w'=w:=by
 have HL:=Lib.hid (fun V=>blen_ok n hn V)
 have hb:=(pow_len ⟨n,by omega⟩ h0).2
 have hp:=wrap_pow (Lib.bitLen n) hb
 have v1:IntKind.u64.wrap (n:Int)=(n:Int):=by rw[IntKind.wrap_u64];omega
 obtain⟨k,hk⟩:∃k,k=Lib.bitLen n:=⟨_,rfl⟩
 rw[←hk]at hp hb ⊢
 rw[←hk]at HL
 obtain⟨M,hM⟩:∃M,M=2 ^ k:=⟨_,rfl⟩
 rw[←hM]at hp ⊢
 clear hk hM hn h0
 go_enter Tryz.func138,Tryz.ntmps138
 go_wp2_with (go_at_call 94;refine(HL.out _).mono ?_;rintro e w1 ⟨rfl,rfl⟩)
 go_ret
 exact⟨rfl,rfl⟩
set_option maxRecDepth 1000000 in
set_option maxHeartbeats 8000000 in
theorem break_ok (B c n a b:Nat) (d:Array Int) (hd:d.size=n) (hn:n≤255) (hab:a+12 < b) (hb:b≤n) (w:World) (h:UArr w B n d) :
  Calls Tryz.prog 112 #[.slice (some ⟨B,0,none⟩) n c,.int .i64 a,.int .i64 b] w fun e w'=>e=.returned (.tuple #[])∧∃d',SO w w' B n a b d d':=by
 obtain⟨L,hL⟩:∃L,L=b-a:=⟨_,rfl⟩
 obtain⟨q,hq⟩:∃q,q=L / 4:=⟨_,rfl⟩
 obtain⟨m2,hm2⟩:∃m,m=a+q*2:=⟨_,rfl⟩
 obtain⟨i0,hi0⟩:∃m,m=m2-1:=⟨_,rfl⟩
 obtain⟨e2,he2⟩:∃m,m=m2+1:=⟨_,rfl⟩
 have hpl:=pow_len ⟨L,by omega⟩ (by show 0 < L;omega)
 obtain⟨M,hM⟩:∃M,M=2 ^ Lib.bitLen L:=⟨_,rfl⟩
 have hM1:1≤M:=by rw[hM];exact Nat.one_le_two_pow
 have hM2:M≤2*L:=by rw[hM];exact hpl.1
 obtain⟨M1,hM3⟩:∃M1,M1=M-1:=⟨_,rfl⟩
 have v1:IntKind.i64.wrap ((b:Int)-(a:Int))=(L:Int):=by simp[IntKind.wrap_i64];omega
 have v2:Int.tdiv (L:Int) 4=(q:Int):=by rw[hq];simp[Int.tdiv_eq_ediv]
 have v3:IntKind.i64.wrap (q:Int)=(q:Int):=by simp[IntKind.wrap_i64];omega
 have v4:IntKind.i64.wrap ((q:Int)*2)=(q:Int)*2:=by simp[IntKind.wrap_i64];omega
 have v5:IntKind.i64.wrap ((a:Int)+(q:Int)*2)=(m2:Int):=by simp[IntKind.wrap_i64];omega
 have v6:IntKind.i64.wrap ((m2:Int)-1)=(i0:Int):=by simp[IntKind.wrap_i64];omega
 have v7:IntKind.i64.wrap ((m2:Int)+1)=(e2:Int):=by simp[IntKind.wrap_i64];omega
 have v8:IntKind.u64.wrap (L:Int)=(L:Int):=by rw[IntKind.wrap_u64];omega
 have v9:IntKind.u64.wrap ((M:Int)-1)=(M1:Int):=by rw[IntKind.wrap_u64];omega
 have l8:(8:Int)≤(L:Int):=by omega
 obtain⟨rb,hrb⟩:∃rb,rb=w.heap.size:=⟨_,rfl⟩
 have HB0:=Lib.hid (show B < w.heap.size by obtain⟨cs,hB,_⟩:=h;exact hB.lt)
 have HNP:=Lib.hid (fun V=>show Calls Tryz.prog 138 #[.int .i64 L] V fun e w'=>e=.returned (.int .u64 (M:Int))∧w'=V from by rw[hM];exact npow_ok L (by omega) (by omega) V)
 have HR:=Lib.hid (show a+L=b∧i0+2=e2∧a≤i0∧e2 < b∧M1 < 2*L∧n≤255∧b≤n∧d.size=n from by omega)
 have HU:=Lib.hid h
 have HRB:=Lib.hid hrb
 clear h hn hab hb hL hq hm2 hi0 he2 hM hM1 hM2 hM3 hrb hd hpl
 go_enter Tryz.func112,Tryz.ntmps112
 go_upto_region 3 with (fail)
 refine wp_let (fun V=>Blk V rb 203 #[.int .u64 L]∧SO w V B n a b d d) ?_ ?_
 ·have hbw:=(Below.refl w.heap.size w).alloc (Nat.le_refl _) (.cells #[.int .u64 L] 203)
  exact⟨by rw[HRB.out];exact Blk.new _ _ _,permIn_refl _ _ _,HU.out.keepF (KeepF.of_below (F:=fun _=>False) hbw) (fun e=>e),KeepF.of_below hbw⟩
 rintro w1 ⟨hX,hS⟩
 rw[←HRB.out]
 have BX:=Lib.hid hX
 have BS:=Lib.hid hS
 clear hX hS
 have HLL:=Lib.hid (show L < 18446744073709551616 from by have:=HR.out;omega)
 go_upto_region 4 with (go_at_call 138;refine(HNP.out _).mono ?_;rintro e w2 ⟨rfl,rfl⟩)
 go_wp2
 go_loopw [9] (fun vi wr=>∃(i X:Nat) (dk:Array Int),vi=.int .i64 i∧i0≤i∧i≤e2+1∧X < 18446744073709551616∧Blk wr rb 203 #[.int .u64 X]∧SO w wr B n a b d dk) (fun vi _=>e2+2-(intOf vi).toNat)
 case atStart=>exact⟨i0,L,d,rfl,Nat.le_refl _,by have:=HR.out;omega,HLL.out,BX.out,BS.out⟩
 case round=>
  obtain⟨i,X,dk,rfl,hi0,hie,hX,hB,hS⟩:=hrel
  have BX1:=Lib.hid hB
  have BS1:=Lib.hid hS
  have HN:=Lib.hid (fun V (hV:Blk V rb 203 #[.int .u64 X])=>next_ok rb X hX V hV)
  have hr:=HR.out
  clear hB hS hX
  by_cases hlt:i≤e2
  rotate_left
  ·have t1:¬(i:Int)≤(e2:Int):=by omega
   go_wp2
   go_end0
   exact⟨rfl,dk,BS1.out⟩
  have t1:(i:Int)≤(e2:Int):=by omega
  obtain⟨ni,hni⟩:∃ni,ni=i+1:=⟨_,rfl⟩
  have v10:IntKind.i64.wrap ((i:Int)+1)=(ni:Int):=by simp[IntKind.wrap_i64];omega
  have HI:=Lib.hid (show a≤i∧i < b∧ni=i+1∧i0≤i∧i≤e2 from by omega)
  clear hni hi0 hie hlt
  go_upto_region 8 with (go_at_call 139;refine(HN.out _ BX1.out).mono ?_;rintro e w2 ⟨v,hv,rfl,hB2,hK2⟩;have BX2:=Lib.hid hB2;have HK2:=Lib.hid hK2;have HV:=Lib.hid hv;obtain⟨O,hO⟩:∃O,O=v &&& M1:=⟨_,rfl⟩;have hO1:O≤M1:=(by rw[hO];exact Nat.and_le_right);have eAnd:bits .and .u64 (v:Int) (M1:Int)=(O:Int):=(by rw[bits_and_u64_nat v M1 hv (by omega),hO]);have v11:IntKind.i64.wrap (O:Int)=(O:Int):=(by simp[IntKind.wrap_i64];omega);have HO:=Lib.hid hO1;clear hB2 hK2 hv hO hO1)
  have BS2:=Lib.hid (show SO w w2 B n a b d dk from ⟨BS1.out.1,BS1.out.2.1.keepF HK2.out (fun e=>by have:=HRB.out;have:=HB0.out;omega),BS1.out.2.2.trans HK2.out (fun k hk e=>by have:=HRB.out;omega)⟩)
  clear BS1
  obtain⟨O2,hO2⟩:∃O2,O2=if L≤O then O-L else O:=⟨_,rfl⟩
  obtain⟨p,hp⟩:∃p,p=a+O2:=⟨_,rfl⟩
  have hp2:a≤p∧p < b:=by have:=HR.out;have:=HO.out;split at hO2<;>omega
  have v12:IntKind.i64.wrap ((a:Int)+(O2:Int))=(p:Int):=by simp[IntKind.wrap_i64];have:=HR.out;omega
  obtain⟨x,hx⟩:∃x,x=dk[i]!:=⟨_,rfl⟩
  obtain⟨y,hy⟩:∃y,y=dk[p]!:=⟨_,rfl⟩
  have c0:w2.cell? ⟨B,i,none⟩=some (.int .u64 x):=by rw[hx];exact BS2.out.2.1.cell (by have:=HI.out;have:=HR.out;omega)
  have c1:w2.cell? ⟨B,p,none⟩=some (.int .u64 y):=by rw[hy];exact BS2.out.2.1.cell (by have:=HR.out;omega)
  have f0:=BS2.out.2.1.fr i
  have f1:=BS2.out.2.1.fr p
  have l0:(i:Int) < (n:Int):=by have:=HI.out;have:=HR.out;omega
  have l1:(p:Int) < (n:Int):=by have:=HR.out;omega
  have HSW:=Lib.hid (show ∀q,SO w (((w2.drewN q).setCell ⟨B,i,none⟩ (.int .u64 y)).setCell ⟨B,p,none⟩ (.int .u64 x)) B n a b d (swp dk i p)from fun q=>by
   have h1:=HI.out
   have h2:=HR.out
   rw[hx,hy];exact(BS2.out.drew q).swap h2.2.2.2.2.2.2.2 h1.1 h1.2.1 hp2.1 hp2.2 h2.2.2.2.2.2.2.1)
  have HXW:=Lib.hid (show ∀q,Blk (((w2.drewN q).setCell ⟨B,i,none⟩ (.int .u64 y)).setCell ⟨B,p,none⟩ (.int .u64 x)) rb 203 #[.int .u64 v]from fun q=>by
   have hne:rb ≠ B:=by have:=HRB.out;have:=HB0.out;omega
   exact((((KeepF.refl (F:=fun k=>k=B) (w:=w2)).drewN q).setCell (p:=⟨B,i,none⟩) rfl _).setCell (p:=⟨B,p,none⟩) rfl _).blk BX2.out hne)
  obtain⟨v',hy'⟩:=cell?_setCell_some (w:=w2) (p:=⟨B,i,none⟩) (x:=.int .u64 y) (q:=⟨B,p,none⟩) c1
  clear hx hy hp
  by_cases hOL:L≤O
  ·have t2:(L:Int)≤(O:Int):=by omega
   have v13:IntKind.i64.wrap ((O:Int)-(L:Int))=(O2:Int):=by rw[if_pos hOL]at hO2;simp[IntKind.wrap_i64];have:=HR.out;have:=HO.out;omega
   clear hO2
   go_wp2
   go_region
   all_goals go_wp2
   go_roundw
   case rel=>exact⟨ni,v,swp dk i p,rfl,by have:=HI.out;omega,by have:=HI.out;omega,HV.out,HXW.out _,HSW.out _⟩
   case measure=>have:=HI.out;simp[intOf]<;>omega
  ·have t2:¬(L:Int)≤(O:Int):=by omega
   have e3:O2=O:=by rw[if_neg hOL]at hO2;exact hO2
   clear hO2
   subst e3
   go_wp2
   go_region
   all_goals go_wp2
   go_roundw
   case rel=>exact⟨ni,v,swp dk i p,rfl,by have:=HI.out;omega,by have:=HI.out;omega,HV.out,HXW.out _,HSW.out _⟩
   case measure=>have:=HI.out;simp[intOf]<;>omega
end Go.Proofs.YtnadmdadcpemnaaGreat
