import Derived.Test.YtbfpdnnphdagjaaGreatMMQy
import Derived.Test.YtbfpdnnphdagjaaGreatTMy
set_option maxRecDepth 100000
set_option maxHeartbeats 1600000
set_option linter.unusedVariables false
set_option linter.unusedSimpArgs false
namespace Go.Proofs.YtbfpdnnphdagjaaGreat
open Go.RowKit
theorem jp (m c:Nat) (A:Option Addr) (z:Nat->Int) (w:World) (hm:m<=140737488355328) (hmc:m<=c) (hz:∀j,j < m->0<=z j/\z j < 256) (hr:aD w w.heap.size A m (fun j=>.int .u8 (z j))) :
  Calls Tryz.prog 17 #[.slice A m c] w (sD m z w):=
 (mn m c A z w hm hmc hz hr).mono fun _ _ ⟨A',c',B,d,h1,h2,h3,h4,_⟩=>⟨A',c',B,d,h1,h2,h3,h4⟩
theorem fK (first:Int) (n c m d:Nat) (A B:Option Addr) (b:Nat->Bool) (z:Nat->Int) (w:World) (h0:0<=first) (hn:n<=maxLen) (hr:aD w w.heap.size A n (fun j=>.bool (b j))) (hz:aD w w.heap.size B m (fun j=>.int .u8 (z j)))
  (he:fz first n=0) (hl:ey first n b=m) (hv:∀j,j < m->m6 first n b j=z j) :
  Calls Tryz.prog 18 #[.int .u64 first,.slice A n c,.slice B m d] w fun e w'=>e=.returned (.bool true)/\Below w.heap.size w w':=by
 have HE:=Lib.hid (yw first n c A b w h0 hn hr);unfold fY at HE;rw[he,hl]at HE;have HV:=Lib.hid (gU hv);have HZ:=Lib.hid hz;clear he hl hv hz hr;go_enter Tryz.func18,Tryz.ntmps18;go_wp2_with (go_at_call 40;refine(HE.out).mono ?_;rintro e w1 ⟨A1,c1,rfl,hR,hb⟩;have s1:=dJ 41 9 5 Tryz.underlying41 Tryz.underlying5 Tryz.underlying9 hR c1;have s2:=dJ 41 9 5 Tryz.underlying41 Tryz.underlying5 Tryz.underlying9 (HZ.out.below hb) d;rw[HV.out]at s1);go_ret
 exact⟨aw (by simp),hb⟩
theorem ml (m c:Nat) (A:Option Addr) (z:Nat->Int) (w:World) (hm:m<=140737488355328) (hmc:m<=c) (hz:∀j,j < m->0<=z j/\z j < 256) (hr:aD w w.heap.size A m (fun j=>.int .u8 (z j))) :
  Calls Tryz.prog 20 #[.slice A m c] w fun e w'=>e=.returned (.int .i64 (gP m z))/\Below w.heap.size w w':=by
 have HD:=Lib.hid (jp m c A z w hm hmc hz hr);unfold sD qR at HD;clear hz hr;go_enter Tryz.func20,Tryz.ntmps20;go_wp2_with (go_at_call 17;refine(HD.out).mono ?_;rintro e w1 ⟨A1,c1,B1,d1,rfl,hR,hR2,hb⟩);go_ret
 exact⟨rfl,hb.alloc hb.size _⟩
theorem Bs (W:World) (N:Nat) (hN:W.heap.size=N):Calls Tryz.prog 18 #[.int .u64 5,.slice (some ⟨N,0,none⟩) 3 3,.slice (some ⟨N+1,0,none⟩) 6 6] ((W.alloc (.cells #[.bool false,.bool true,.bool false] 4)).alloc (.cells #[.int .u8 0,.int .u8 0,.int .u8 0,.int .u8 0,.int .u8 5,.int .u8 64] 5)) fun e w'=>e=.returned (.bool true)/\Below W.heap.size W w':=by
 subst hN
 exact(fK 5 3 3 6 6 _ _ (fun j=>([false,true,false]:List Bool).getD j false) _ _ (by decide) (by decide) (tW [false,true,false] ((ae.new W 4 #[.bool false,.bool true,.bool false]).alloc _) (by simp;omega)) (dI [0,0,0,0,5,64] (by have:=ae.new (W.alloc (.cells #[.bool false,.bool true,.bool false] 4)) 5 #[.int .u8 0,.int .u8 0,.int .u8 0,.int .u8 0,.int .u8 5,.int .u8 64];rw[World.size_alloc]at this;exact this) (by simp)) (by decide) (by decide +kernel) (by decide +kernel)).mono fun _ _ h=>⟨h.1,(((Below.refl _ W).alloc ay _).alloc (by simp) _).trans (h.2.mono (by simp;try omega))⟩
theorem rep2 (W:World):Calls Tryz.prog 18 #[.int .u64 4294967296,.slice none 0 0,.slice (some ⟨W.heap.size,0,none⟩) 6 6] (W.alloc (.cells #[.int .u8 0,.int .u8 255,.int .u8 255,.int .u8 255,.int .u8 255,.int .u8 128] 5)) fun e w'=>e=.returned (.bool true)/\Below W.heap.size W w':=
 (fK 4294967296 0 0 6 6 _ _ (fun _=>false) _ _ (by decide) (by decide) aD.nil (dI [0,255,255,255,255,128] (ae.new W 5 #[.int .u8 0,.int .u8 255,.int .u8 255,.int .u8 255,.int .u8 255,.int .u8 128]) (by simp)) (by decide) (by decide +kernel) (by decide +kernel)).mono fun _ _ h=>⟨h.1,((Below.refl _ W).alloc ay _).trans (h.2.mono (by simp;try omega))⟩
theorem Bt (W:World):Calls Tryz.prog 18 #[.int .u64 7,.slice none 0 0,.slice (some ⟨W.heap.size,0,none⟩) 5 5] (W.alloc (.cells #[.int .u8 0,.int .u8 0,.int .u8 0,.int .u8 0,.int .u8 7] 5)) fun e w'=>e=.returned (.bool true)/\Below W.heap.size W w':=
 (fK 7 0 0 5 5 _ _ (fun _=>false) _ _ (by decide) (by decide) aD.nil (dI [0,0,0,0,7] (ae.new W 5 #[.int .u8 0,.int .u8 0,.int .u8 0,.int .u8 0,.int .u8 7]) (by simp)) (by decide) (by decide +kernel) (by decide +kernel)).mono fun _ _ h=>⟨h.1,((Below.refl _ W).alloc ay _).trans (h.2.mono (by simp;try omega))⟩
theorem AQ (W:World):Calls Tryz.prog 20 #[.slice (some ⟨W.heap.size,0,none⟩) 1 1] (W.alloc (.cells #[.int .u8 32] 5)) fun e w'=>e=.returned (.int .i64 9)/\Below W.heap.size W w':=
 (ml 1 1 _ (fun j=>([32]:List Int).getD j 0) _ (by decide) ay (by decide +kernel) (dI [32] (ae.new W 5 #[.int .u8 32]) (by simp))).mono fun _ _ h=>⟨by rw[h.1];rfl,((Below.refl _ W).alloc ay _).trans (h.2.mono (by simp))⟩
theorem AP (W:World):Calls Tryz.prog 20 #[.slice (some ⟨W.heap.size,0,none⟩) 6 6] (W.alloc (.cells #[.int .u8 0,.int .u8 0,.int .u8 0,.int .u8 0,.int .u8 5,.int .u8 0] 5)) fun e w'=>e=.returned (.int .i64 9)/\Below W.heap.size W w':=
 (ml 6 6 _ (fun j=>([0,0,0,0,5,0]:List Int).getD j 0) _ (by decide) ay (by decide +kernel) (dI [0,0,0,0,5,0] (ae.new W 5 #[.int .u8 0,.int .u8 0,.int .u8 0,.int .u8 0,.int .u8 5,.int .u8 0]) (by simp))).mono fun _ _ h=>⟨by rw[h.1];rfl,((Below.refl _ W).alloc ay _).trans (h.2.mono (by simp))⟩
theorem Bo (W:World):Calls Tryz.prog 17 #[.slice (some ⟨W.heap.size,0,none⟩) 2 2] (W.alloc (.cells #[.int .u8 16,.int .u8 1] 5)) fun e w'=>∃A c B d,e=.returned (.tuple #[.agg #[.int .i64 1,.int .u32 0,.slice A 0 c,.slice B 1 d],.int .i64 0])/\aD w' w'.heap.size B 1 (fun _=>.int .u8 1)/\Below W.heap.size W w':=by
 refine(jp 2 2 _ (fun j=>([16,1]:List Int).getD j 0) _ (by decide) ay (by decide +kernel) (dI [16,1] (ae.new W 5 #[.int .u8 16,.int .u8 1]) (by simp))).mono ?_;rintro e w' ⟨A,c,B,d,rfl,_,hR,hb⟩;refine⟨A,c,B,d,rfl,?_,((Below.refl _ W).alloc ay _).trans (hb.mono (by simp))⟩
 exact aD.congr hR (fun j hj=>by obtain rfl:j=0:=(by(have:j < 1:=hj);omega);rfl)
theorem cZ (w:World) :
  Calls Tryz.prog 5 #[] w fun e w'=>e=.returned (.bool true)/\Below w.heap.size w w':=by
 go_enter Tryz.func5,Tryz.ntmps5;go_wp2_with (first
  | (go_at_call 17;refine(Bo _).mono ?_;rintro e w1 ⟨A,c,B,d,rfl,hR,hb1⟩)
  | (go_at_call 18;((with_reducible refine(Bs _ _ (by simp)).mono ?_);rintro e w2 ⟨rfl,hb2⟩;have K2:ae w2 w1.heap.size 62 #[.int .i64 1,.int .u32 0,.slice A 0 c,.slice B 1 d]:=(ae.new w1 _ _).below hb2 (by simp)))
  | (go_at_call 18;((with_reducible refine(rep2 _).mono ?_);rintro e w3 ⟨rfl,hb3⟩;have K3:=K2.below hb3 K2.lt))
  | (go_at_call 18;((with_reducible refine(Bt _).mono ?_);rintro e w4 ⟨rfl,hb4⟩;have K4:=K3.below hb4 K3.lt;obtain⟨c0,c1,c2,c3,_,_,_,_⟩:=K4.four;have R4:=(((hR.alloc ay _).more (by simp)).next hb2).next hb3 |>.next hb4))
  | (go_at_call 19;refine(tC 1 0 A none B _ 0 1 c 0 d 1 (fun _=>false) (fun _=>1) _ (by decide) aD.nil aD.nil ((R4.alloc ay _).more (by simp)) (dI [1] (ae.new w4 5 #[.int .u8 1]) (by simp) |>.congr (fun j hj=>by obtain rfl:j=0:=(by(have:j < 1:=hj);omega);rfl))).mono ?_;rintro e w5 ⟨rfl,hb5⟩)
  | (go_at_call 20;((with_reducible refine(AQ _).mono ?_);rintro e w6 ⟨rfl,hb6⟩))
  | (go_at_call 20;((with_reducible refine(AP _).mono ?_);rintro e w7 ⟨rfl,hb7⟩)))
 go_ret
 exact⟨rfl,aZ (aZ (aZ (mY (aZ (aZ (aZ (mY hb1 _) hb2) hb3) hb4) _) hb5) hb6) hb7⟩
end Go.Proofs.YtbfpdnnphdagjaaGreat
