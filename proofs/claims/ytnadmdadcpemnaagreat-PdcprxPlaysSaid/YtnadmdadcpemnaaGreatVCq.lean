import Derived.Test.YtnadmdadcpemnaaGreatVBq
import Derived.Test.YtnadmdadcpemnaaGreatTAq
import Derived.Deep.RegionHeld3
import Derived.Deep.DrawnRows
import Derived.Deep.RegionWith
import Derived.Deep.DeepCutAuto
import Derived.Deep.CutRange
import Derived.Deep.CutBlock
set_option maxRecDepth 100000
namespace Go.Proofs.YtnadmdadcpemnaaGreat
set_option linter.unusedVariables false
set_option linter.unusedSimpArgs false
open Go.RowKit
attribute [local go_sem ↓] Go.wp_at_zero Go.wp_at_succ
def boxArr (f g:Nat->Nat):Array Value:=Array.ofFn (n:=512) fun j=>.int .u8 ((if j.1 < 256 then f j.1 else g (j.1-256):Nat):Int)
theorem boxArr_size (f g:Nat->Nat):(boxArr f g).size=512:=by simp[boxArr]
theorem boxArr_at (f g:Nat->Nat) {j:Nat} (h:j < 512):(boxArr f g)[j]? = some (.int .u8 ((if j < 256 then f j else g (j-256):Nat):Int)):=by simp[boxArr,h]
theorem boxArr_low (f g:Nat->Nat) (i x:Nat) (hi:i < 256):(boxArr f g).setIfInBounds i (.int .u8 (x:Int))=boxArr (upd f i x) g:=by
 apply Array.ext_getElem?;intro j;rw[Array.getElem?_setIfInBounds,boxArr_size];by_cases hj:j < 512
 ·rw[boxArr_at _ _ hj,boxArr_at _ _ hj];by_cases e:i=j
  ·subst e;rw[if_pos rfl,if_pos (by omega),if_pos hi];simp[upd]
  ·have e2:¬j=i:=fun h=>e h.symm;rw[if_neg e];simp[upd,e2]
 ·rw[if_neg (by omega),Array.getElem?_eq_none (by rw[boxArr_size];omega),Array.getElem?_eq_none (by rw[boxArr_size];omega)]
theorem boxArr_high (f g:Nat->Nat) (i x:Nat) (hi:i < 256):(boxArr f g).setIfInBounds (256+i) (.int .u8 (x:Int))=boxArr f (upd g i x):=by
 apply Array.ext_getElem?;intro j;rw[Array.getElem?_setIfInBounds,boxArr_size];by_cases hj:j < 512
 ·rw[boxArr_at _ _ hj,boxArr_at _ _ hj];by_cases e:256+i=j
  ·subst e;rw[if_pos rfl,if_pos (by omega),if_neg (by omega)];simp[upd]
  ·rw[if_neg e];by_cases h8:j < 256
   ·rw[if_pos h8,if_pos h8]
   ·have e2:¬j-256=i:=by omega
    rw[if_neg h8,if_neg h8];simp[upd,e2]
 ·rw[if_neg (by omega),Array.getElem?_eq_none (by rw[boxArr_size];omega),Array.getElem?_eq_none (by rw[boxArr_size];omega)]
theorem set_ok (i v:Nat) (hi:i < 256) (hv:v < 256) (sb:Nat) (f g:Nat->Nat) (w:World) (h:Blk w sb 211 (boxArr f g)) :
  Calls Tryz.prog 163 #[.int .u8 i,.int .u8 v,.pointer (some ⟨sb,0,none⟩)] w fun e w'=>e=.returned (.tuple #[])/\Blk w' sb 211 (boxArr (upd f i (aff v)) (upd g (aff v) i))/\KeepF (fun k=>k=sb) w w'/\w'.heap.size=w.heap.size:=by
 have H1:=Lib.hid (rotl1_ok v hv w);have H2:=Lib.hid (rotl2_ok v hv w);have H3:=Lib.hid (rotl3_ok v hv w);have H4:=Lib.hid (rotl4_ok v hv w);have l1:=rl8_lt v 1 hv;have l2:=rl8_lt v 2 hv;have l3:=rl8_lt v 3 hv;have l4:=rl8_lt v 4 hv;have m1:=xor_lt hv l1;have m2:=xor_lt m1 l2;have m3:=xor_lt m2 l3;have m4:=xor_lt m3 l4;have x1:=bx v (rl8 v 1) _ hv l1 rfl;have x2:=bx _ (rl8 v 2) _ m1 l2 rfl;have x3:=bx _ (rl8 v 3) _ m2 l3 rfl;have x4:=bx _ (rl8 v 4) _ m3 l4 rfl;have x5:bits .xor .u8 ((v ^^^ rl8 v 1 ^^^ rl8 v 2 ^^^ rl8 v 3 ^^^ rl8 v 4:Nat):Int) 99=((aff v:Nat):Int):=bx _ 99 (aff v) m4 (by decide) rfl;obtain⟨r1,hr1⟩:∃r,r=rl8 v 1:=⟨_,rfl⟩
 obtain⟨r2,hr2⟩:∃r,r=rl8 v 2:=⟨_,rfl⟩
 obtain⟨r3,hr3⟩:∃r,r=rl8 v 3:=⟨_,rfl⟩
 obtain⟨r4,hr4⟩:∃r,r=rl8 v 4:=⟨_,rfl⟩
 obtain⟨a,ha⟩:∃a,a=aff v:=⟨_,rfl⟩
 have ha9:a < 256:=by rw[ha];exact aff_lt v hv
 rw[<-hr1]at H1 x1 x2 x3 x4 x5;rw[<-hr2]at H2 x2 x3 x4 x5;rw[<-hr3]at H3 x3 x4 x5;rw[<-hr4]at H4 x4 x5;rw[<-ha]at x5 ⊢;clear hr1 hr2 hr3 hr4 ha l1 l2 l3 l4 m1 m2 m3 m4;generalize v ^^^ r1=s1 at x1 x2 x3 x4 x5;generalize s1 ^^^ r2=s2 at x2 x3 x4 x5;generalize s2 ^^^ r3=s3 at x3 x4 x5;generalize s3 ^^^ r4=s4 at x4 x5;have hb1:Blk (w.setCell ⟨sb,i,none⟩ (.int .u8 a)) sb 211 (boxArr (upd f i a) g):=by
  rw[<-boxArr_low f g i a hi];exact h.set_ i _
 have hb2:Blk ((w.setCell ⟨sb,i,none⟩ (.int .u8 a)).setCell ⟨sb,256+a,none⟩ (.int .u8 i)) sb 211 (boxArr (upd f i a) (upd g a i)):=by
  rw[<-boxArr_high _ g a i ha9];exact hb1.set_ (256+a) _
 have c1:w.cell? ⟨sb,i,none⟩=some (.int .u8 (f i)):=by rw[h.cell,boxArr_at _ _ (by omega),if_pos hi]
 have c2:w.cell? ⟨sb,256+a,none⟩=some (.int .u8 (g a)):=by rw[h.cell,boxArr_at _ _ (by omega),if_neg (by omega),show 256+a-256=a by omega]
 have f1:=h.frozen i;have f2:=h.frozen (256+a);have HB:=Lib.hid hb2;have i1:(i:Int) < 256:=by omega
 have a1:(a:Int) < 256:=by omega
 clear h hb1 hb2;go_enter Tryz.func163,Tryz.ntmps163;go_upto_region 1 with (first
  | (go_at_call 164;first
    | (with_reducible refine(H1.out).mono ?_;rintro e w2 ⟨rfl,rfl⟩)
    | (with_reducible refine(H2.out).mono ?_;rintro e w2 ⟨rfl,rfl⟩)
    | (with_reducible refine(H3.out).mono ?_;rintro e w2 ⟨rfl,rfl⟩)
    | (with_reducible refine(H4.out).mono ?_;rintro e w2 ⟨rfl,rfl⟩)))
 go_wp2;refine bodyPost_end (results_none rfl _ _ _) rfl ?_
 exact⟨rfl,HB.out,((KeepF.refl (F:=fun k=>k=sb)).setCell (p:=⟨sb,i,none⟩) rfl _).setCell (p:=⟨sb,256+a,none⟩) rfl _,by simp⟩
end Go.Proofs.YtnadmdadcpemnaaGreat
