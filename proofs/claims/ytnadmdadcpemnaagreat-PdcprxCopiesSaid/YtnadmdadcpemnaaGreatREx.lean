import Derived.Test.YtnadmdadcpemnaaGreatRDx
import Derived.Test.YtnadmdadcpemnaaGreatMVMx
namespace Go.Proofs.YtnadmdadcpemnaaGreat
open Go.RowKit
attribute [local go_sem ↓] Go.wp_at_zero Go.wp_at_succ
set_option linter.unusedVariables false
theorem ctrB_low (ct b d i j:Nat) (hb:b < 32) (hd:d < 2) (hj:j < 4):ctrB ct b d i j=ct / 2 ^ (24-8*j) % 256:=by
 unfold ctrB halfB pfx
 rw[if_pos (by omega)]
 rcases (by omega:j=0∨j=1∨j=2∨j=3)with rfl | rfl | rfl | rfl<;>simp only[Nat.reduceMul,Nat.reduceSub,Nat.reducePow]<;>omega
theorem ctrB_four (ct b d i:Nat) (hb:b < 32) (hd:d < 2):ctrB ct b d i 4=(8*b+4*d) % 256:=by
 unfold ctrB halfB pfx
 rw[if_pos (by omega)]
 simp only[Nat.reduceMul,Nat.reduceSub,Nat.reducePow]
 omega
theorem ctrB_mid (ct b d i j:Nat) (hb:b < 32) (hd:d < 2) (h1:5≤j) (h2:j < 8):ctrB ct b d i j=0:=by
 unfold ctrB halfB pfx
 rw[if_pos (by omega)]
 rcases (by omega:j=5∨j=6∨j=7)with rfl | rfl | rfl<;>simp only[Nat.reduceMul,Nat.reduceSub,Nat.reducePow]<;>omega
theorem ctrB_high (ct b d i k:Nat):ctrB ct b d i (8+k)=i / 2 ^ (56-8*k) % 256:=by
 unfold ctrB halfB
 rw[if_neg (by omega),show 8+k-8=k by omega]
theorem upto_mid (ct b d i:Nat) (hb:b < 32) (hd:d < 2):b16 (upto 5 (ctrB ct b d i))=b16 (upto 8 (ctrB ct b d i)):=b16_congr fun j hj=>by
 unfold upto
 by_cases h:j < 5
 ·rw[if_pos h,if_pos (by omega)]
 ·rw[if_neg h]
  by_cases h2:j < 8
  ·rw[if_pos h2,ctrB_mid ct b d i j hb hd (by omega) h2]
  ·rw[if_neg h2]
theorem upto_none (f:Nat→Nat):b16 (upto 0 f)=#[.int .u8 0,.int .u8 0,.int .u8 0,.int .u8 0,.int .u8 0,.int .u8 0,.int .u8 0,.int .u8 0,.int .u8 0,.int .u8 0,.int .u8 0,.int .u8 0,.int .u8 0,.int .u8 0,.int .u8 0,.int .u8 0]:=by
 rw[show upto 0 f=fun _=>0 from by funext j;unfold upto;rw[if_neg (by omega)]]
 rfl
set_option maxRecDepth 100000 in
set_option maxHeartbeats 1600000 in
theorem rblock_ok (ct b d i:Nat) (hc:ct < 4294967296) (hb:b < 32) (hd:d < 2) (hi:i < 18446744073709551616) (w:World):Calls Tryz.prog 67 #[.int .u32 ct,.int .i64 b,.int .i64 d,.int .u64 i] w fun e w'=>e=.returned (.agg (b16 (ctrB ct b d i)))∧Below w.heap.size w w':=by
 obtain⟨F,hF⟩:∃F,F=ctrB ct b d i:=⟨_,rfl⟩
 have HL:Hid (∀k,k < 4→((ct:Int) / 2 ^ (24-8*k)) % 256=((F k:Nat):Int)):=Lib.hid fun k hk=>by
  rw[hF,ctrB_low ct b d i k hb hd hk,Int.natCast_emod,Int.natCast_ediv,Int.natCast_pow]
  rfl
 have H4:Hid (8*(b:Int)+4*(d:Int)=((F 4:Nat):Int)):=Lib.hid (by rw[hF,ctrB_four ct b d i hb hd];omega)
 have HH:Hid (∀k,k < 8→((i:Int) / 2 ^ (56-8*k)) % 256=((F (8+k):Nat):Int)):=Lib.hid fun k hk=>by
  rw[hF,ctrB_high ct b d i k,Int.natCast_emod,Int.natCast_ediv,Int.natCast_pow]
  rfl
 obtain⟨E,hE⟩:∃E:Nat→Array Value,E=fun k=>b16 (upto k F):=⟨_,rfl⟩
 have HS:Hid (∀k,k < 16→(E k).setIfInBounds k (.int .u8 ((F k:Nat):Int))=E (k+1)):=Lib.hid (by rw[hE];exact fun k hk=>upto_set k F hk)
 have H0:Hid (E 0=#[.int .u8 0,.int .u8 0,.int .u8 0,.int .u8 0,.int .u8 0,.int .u8 0,.int .u8 0,.int .u8 0,.int .u8 0,.int .u8 0,.int .u8 0,.int .u8 0,.int .u8 0,.int .u8 0,.int .u8 0,.int .u8 0]):=Lib.hid (by rw[hE];exact upto_none F)
 have HM:Hid (E 5=E 8):=Lib.hid (by rw[hE,hF];exact upto_mid ct b d i hb hd)
 have HE:Hid (E 16=b16 (ctrB ct b d i)):=Lib.hid (by rw[hE,hF];exact upto_all _)
 have HX:=Lib.hid (fun k=>show(Tryz.prog.info? 23).map (·.size)=some (E k).size by rw[hE];exact size16 _)
 have HO:=Lib.hid (fun k=>show(E k).all (·.oneCell')=true by rw[hE];exact b16_one _)
 have HZ:Hid ((#[.int .u8 0,.int .u8 0,.int .u8 0,.int .u8 0,.int .u8 0,.int .u8 0,.int .u8 0,.int .u8 0,.int .u8 0,.int .u8 0,.int .u8 0,.int .u8 0,.int .u8 0,.int .u8 0,.int .u8 0,.int .u8 0]:Array Value).size=(E 16).size):=Lib.hid (by rw[hE,b16_size];rfl)
 have HAT:=Lib.hid (fun k j (hj:j < 16)=>show ∃x,(E k)[j]? = some (.int .u8 x) by rw[hE];exact⟨_,b16_at _ hj⟩)
 rw[←HE.out]
 have b0:(0:Int)≤(b:Int):=by omega
 have b1:(b:Int) < 32:=by omega
 have d0:(0:Int)≤(d:Int):=by omega
 have d1:(d:Int) < 2:=by omega
 have c0:(0:Int)≤(ct:Int):=by omega
 have c1:(ct:Int) < 4294967296:=by omega
 have i0:(0:Int)≤(i:Int):=by omega
 have i1:(i:Int) < 18446744073709551616:=by omega
 have w4:IntKind.i64.wrap (8*(b:Int))=8*(b:Int):=by simp[IntKind.wrap_i64];omega
 have w5:IntKind.i64.wrap (4*(d:Int))=4*(d:Int):=by simp[IntKind.wrap_i64];omega
 have w6:IntKind.i64.wrap (8*(b:Int)+4*(d:Int))=8*(b:Int)+4*(d:Int):=by simp[IntKind.wrap_i64];omega
 clear hF hE hc hb hd hi
 go_enter Tryz.func67,Tryz.ntmps67
 go_upto_region 2 with (fail)
 obtain⟨g,hg⟩:∃g,g=w.heap.size:=⟨_,rfl⟩
 obtain⟨o,ho⟩:∃o,o=g+1:=⟨_,rfl⟩
 obtain⟨ZA,hZA⟩:∃ZA:Array Value,ZA=#[.int .u8 0,.int .u8 0,.int .u8 0,.int .u8 0,.int .u8 0,.int .u8 0,.int .u8 0,.int .u8 0,.int .u8 0,.int .u8 0,.int .u8 0,.int .u8 0,.int .u8 0,.int .u8 0,.int .u8 0,.int .u8 0]:=⟨_,rfl⟩
 have HZA:Hid (ZA.size=(E 16).size):=Lib.hid (by rw[hZA,HZ.out])
 refine wp_let (fun V=>Blk V o 23 (E 0)∧Blk V g 23 ZA∧Below w.heap.size w V) ⟨by rw[ho,hg,H0.out];exact blk_atA _ _ _ _ (by simp),by rw[hg,hZA];exact(Blk.new _ _ _).alloc _,((Below.refl _ w).alloc (Nat.le_refl _) _).alloc (by simp) _⟩ ?_
 rintro W1 ⟨b1,b2,b3⟩
 have BB:=Lib.hid (And.intro b1 (And.intro b2 b3))
 have HSZ:=Lib.hid (show w.heap.size≤g∧g < o by omega)
 rw[←hg,←ho]
 clear b1 b2 b3 hg ho hZA HZ H0
 go_wp2
 go_loopw [10] (fun x wr=>∃k:Nat,k≤4∧x=.int .i64 k∧Blk wr o 23 (E k)∧Blk wr g 23 ZA∧Below w.heap.size w wr) (fun x _=>4-(intOf x).toNat)
 case atStart=>exact⟨0,by omega,rfl,BB.out⟩
 case round=>
  clear BB
  obtain⟨k,hk,rfl,hO,hG,hb⟩:=hrel
  have HO1:=Lib.hid hO
  have HG1:=Lib.hid hG
  have HBW:=Lib.hid hb
  clear hO hG hb
  by_cases hlt:k < 4
  ·have k0:(0:Int)≤(k:Int):=by omega
   have k1:(k:Int) < 4:=by omega
   have s0:(0:Int)≤24-8*(k:Int):=by omega
   have s1:((24:Int)-8*(k:Int)).toNat=24-8*k:=by omega
   obtain⟨x,hx⟩:=HAT.out k k (by omega)
   have c0:wr.cell? ⟨o,k,none⟩=some (.int .u8 x):=(HO1.out.cell k).trans hx
   have f0:=HO1.out.frozen k
   have HSk:=Lib.hid (HS.out k (by omega))
   have hk16:(k:Int) < 16:=by omega
   have hq:=HL.out k hlt
   clear hx
   go_wp2
   go_roundw
   case rel=>
    refine⟨k+1,by omega,by go_num,?_,HG1.out.far (p:=⟨o,k,none⟩) (by have:=HSZ.out;show ¬g=o;omega) _,HBW.out.setCell (p:=⟨o,k,none⟩) (by have:=HSZ.out;show w.heap.size≤o;omega) _⟩
    rw[←HSk.out]
    exact HO1.out.set_ k _
   case measure=>simp[intOf];omega
  ·obtain rfl:k=4:=by omega
   have n1:¬(4:Int) < 4:=by omega
   obtain⟨x4,hx4⟩:=HAT.out 4 4 (by decide)
   have c4:wr.cell? ⟨o,4,none⟩=some (.int .u8 x4):=(HO1.out.cell 4).trans hx4
   have f4:=HO1.out.frozen 4
   have e45:=Lib.hid (HS.out 4 (by decide))
   clear hx4
   go_upto_region 7 with (fail)
   rw[H4.out]
   refine wp_let (fun V=>Blk V o 23 (E (8+0))∧Blk V g 23 ZA∧Below w.heap.size w V) ⟨by rw[show 8+0=8 from rfl,←HM.out,←e45.out];exact HO1.out.set_ 4 _,HG1.out.far (p:=⟨o,4,none⟩) (by have:=HSZ.out;show ¬g=o;omega) _,HBW.out.setCell (p:=⟨o,4,none⟩) (by have:=HSZ.out;show w.heap.size≤o;omega) _⟩ ?_
   rintro W2 ⟨b1,b2,b3⟩
   have CC:=Lib.hid (And.intro b1 (And.intro b2 b3))
   clear b1 b2 b3 HO1 HG1 HBW c4 f4
   go_wp2
   go_loopw [11] (fun x wr=>∃k:Nat,k≤8∧x=.int .i64 k∧Blk wr o 23 (E (8+k))∧Blk wr g 23 ZA∧Below w.heap.size w wr) (fun x _=>8-(intOf x).toNat)
   case atStart=>exact⟨0,by omega,rfl,CC.out⟩
   case round=>
    clear CC
    obtain⟨k,hk,rfl,hO,hG,hb⟩:=hrel
    have HO1:=Lib.hid hO
    have HG1:=Lib.hid hG
    have HBW:=Lib.hid hb
    clear hO hG hb
    by_cases hlt:k < 8
    ·have k0:(0:Int)≤(k:Int):=by omega
     have k1:(k:Int) < 8:=by omega
     have s0:(0:Int)≤56-8*(k:Int):=by omega
     have s1:((56:Int)-8*(k:Int)).toNat=56-8*k:=by omega
     obtain⟨m,hm⟩:∃m,m=8+k:=⟨_,rfl⟩
     have i8:(8:Int)+(k:Int)=(m:Int):=by omega
     have i7:(m:Int) < 16:=by omega
     have i6:(0:Int)≤(m:Int):=by omega
     obtain⟨x,hx⟩:=HAT.out m m (by omega)
     rw[←hm]at HO1
     have c0:wr.cell? ⟨o,m,none⟩=some (.int .u8 x):=(HO1.out.cell m).trans hx
     have f0:=HO1.out.frozen m
     have HSk:=Lib.hid (HS.out m (by omega))
     have hq:=HH.out k hlt
     rw[←hm]at hq
     have HMM:=Lib.hid hm
     clear hm
     clear hx
     go_wp2
     go_roundw
     case rel=>
      refine⟨k+1,by omega,by go_num,?_,HG1.out.far (p:=⟨o,m,none⟩) (by have:=HSZ.out;show ¬g=o;omega) _,HBW.out.setCell (p:=⟨o,m,none⟩) (by have:=HSZ.out;show w.heap.size≤o;omega) _⟩
      rw[show 8+(k+1)=m+1 by have:=HMM.out;omega,←HSk.out]
      exact HO1.out.set_ m _
     case measure=>simp[intOf];omega
    ·obtain rfl:k=8:=by omega
     have n1:¬(8:Int) < 8:=by omega
     have HX16:=Lib.hid (HX.out 16)
     have HO16:=Lib.hid (HO.out 16)
     have HO2:=Lib.hid (show Blk wr o 23 (E 16)from HO1.out)
     obtain⟨X,hX⟩:∃X,X=E 16:=⟨_,rfl⟩
     rw[←hX]at HO2 HX16 HO16 HZA
     have HXE:=Lib.hid hX
     clear hX
     go_wp2_with (first
      | (refine wpList_load_row rfl _ _ rfl o rfl 23 X (0,0) _ HO2.out Tryz.underlying23 rfl HX16.out ?_)
      | (refine wpList_store_row rfl _ _ _ rfl g X rfl rfl 23 ZA HG1.out HX16.out HZA.out HO16.out ?_))
     refine bodyPost_ret (v:=.agg X) (results_cell_row (g:=g) (t:=23) (fr:=(0,0)) Tryz.results67 _ _ X _ rfl (setRow_heap wr g ZA X 23 (0,0) HG1.out) Tryz.underlying23 rfl HX16.out) rfl ⟨by rw[HXE.out],?_⟩
     exact belowRow HBW.out (by have:=HSZ.out;omega) _
end Go.Proofs.YtnadmdadcpemnaaGreat
