import Derived.Test.YtbfpdnnphdagjaaGreatMMQy
import Derived.Test.YtbfpdnnphdagjaaGreatMXCy
import Derived.Test.YtbfpdnnphdagjaaGreatMLXy
import Derived.ChangeAlike
set_option maxRecDepth 100000
set_option maxHeartbeats 1600000
set_option linter.unusedVariables false
set_option linter.unusedSimpArgs false
namespace Go.Proofs.YtbfpdnnphdagjaaGreat
open Go.RowKit
section
variable (first:Nat) (b:Nat->Bool) (n:Nat)
theorem vt (j:Nat):b9 (pq (dz (eb first b n))) j=(decide (j < n) && b j):=by
 have e:pq (dz (eb first b n)) (j / 8)=((bu b n (j / 8):Nat):Int):=by
  unfold pq dz eb;rw[if_neg (by omega),if_neg (by omega),show 1+(4+j / 8)-5=j / 8 by omega]
 unfold b9;rw[e,Int.toNat_natCast,HM.bit_pk];by_cases h:j < n<;>cases b j<;>simp[h]
theorem yk (N:Nat) (hN:aq b n<=N):aq (b9 (pq (dz (eb first b n)))) N=aq b n:=by
 refine et _ _ _ hN (fun h=>?_) (fun j h1 h2=>?_)
 ·rw[vt,eG b n h];have:=dH b n;simp;omega
 ·rw[vt];by_cases h:j < n
  ·rw[eV b n j h1 h];simp
  ·simp[h]
theorem uQ (hf:first < 4294967296):fu (dz (eb first b n)) 4=(first:Int):=by
 simp[fu,dz,eb];omega
theorem wa (j:Nat):0<=eb first b n j/\eb first b n j < 256:=by
 unfold eb
 split
 ·omega
 ·split
  ·omega
  ·have:=vY b n (j-5);omega
theorem xW (hn:n<=2047):dA (4+(aq b n+7) / 8) (dz (eb first b n))=0/\iC (4+(aq b n+7) / 8) (dz (eb first b n))=aq b n:=by
 have hl:=dH b n;have e1:iC (4+(aq b n+7) / 8) (dz (eb first b n))=aq b n:=by
  unfold iC
  exact yk first b n _ (by omega)
 refine⟨?_,e1⟩;unfold dA;rw[if_neg (by omega),if_neg (by omega),e1,if_neg (by omega),if_neg];rintro ⟨h1,h2⟩;have hL:0 < aq b n:=by omega
 have h3:dz (eb first b n) (4+(aq b n+7) / 8-1)=((bu b n ((aq b n-1) / 8):Nat):Int):=by
  unfold dz eb;rw[if_neg (by omega),if_neg (by omega),show 1+(4+(aq b n+7) / 8-1)-5=(aq b n-1) / 8 by omega]
 rw[h3]at h2;have h4:=HM.bit_pk b n (aq b n-1);rw[if_pos ⟨by omega,eG b n hL⟩]at h4;have h5:bu b n ((aq b n-1) / 8)=0:=by omega
 rw[h5]at h4;simp at h4
theorem sK (hf:first < 4294967296) (hn:n<=2047) :
  gP (5+(aq b n+7) / 8) (eb first b n)=0/\ei (5+(aq b n+7) / 8) (eb first b n)=0/\ce (5+(aq b n+7) / 8) (eb first b n)=first/\fm (5+(aq b n+7) / 8) (eb first b n)=aq b n/\dY (5+(aq b n+7) / 8) (eb first b n)=0:=by
 obtain⟨h1,h2⟩:=xW first b n hn;have e0:eb first b n 0=0:=by unfold eb;simp
 have em:5+(aq b n+7) / 8-1=4+(aq b n+7) / 8:=by omega
 refine⟨?_,?_,?_,?_,?_⟩
 ·unfold gP;rw[if_neg (by omega),if_pos e0,em,h1]
 ·unfold ei;rw[if_neg (by rw[e0];omega)]
 ·unfold ce bJ;rw[if_pos ⟨by omega,e0⟩,em,h1,if_pos rfl,uQ first b n hf]
 ·unfold fm dE;rw[if_pos ⟨by omega,e0⟩,em,h1,if_pos rfl,h2]
 ·unfold dY;rw[if_neg (by rw[e0];omega)]
end
end Go.Proofs.YtbfpdnnphdagjaaGreat
namespace Go.Proofs.YtbfpdnnphdagjaaGreat
open Go.RowKit
attribute [local go_sem ↓] Go.wp_at_zero Go.wp_at_succ
def RS.bit (s:RS) (j:Nat):Bool:=stored s.L (s.deliver+1+(j:Int))
def gd (s:RS):Nat:=5+(aq s.bit s.statN+7) / 8
theorem vE (g:Nat) (s:RS) (W R:Nat->Prop) (sb:Nat) (l:List SE) (ub ek:Nat) (w:World) (h:aN w g s W R sb l ub ek) (hd:s.deliver < 4294967296) (hn:s.statN<=2047) :
  Calls Tryz.prog 36 #[.pointer (some ⟨g,0,none⟩)] w fun e w'=>∃g2 cap,e=.returned (.tuple #[.slice (some ⟨g2,0,none⟩) (gd s) cap,.int .i64 0])/\gd s<=cap/\aD w' w'.heap.size (some ⟨g2,0,none⟩) (gd s) (fun j=>.int .u8 (eb s.deliver.toNat s.bit s.statN j))/\Below w.heap.size w w':=by
 have HCF:=Lib.hid (fH g s W R sb l ub ek w h);have HST:=Lib.hid (fun(V:World) (hb:Below w.heap.size w V)=>nu g s W R sb l ub ek V (h.below hb));have h0:=h.ok.deliver.1;obtain⟨F,hF⟩:=af s.deliver.toNat
 have hFi:(F:Int)=s.deliver:=by rw[hF];exact Int.toNat_of_nonneg h0
 have HEN:=Lib.hid (fun(V:World) (A:Option Addr) (c:Nat) (hs:SL V 4 1 A s.statN c (gT s s.statN))=>nX F s.statN c A s.bit V (by omega) hn (hs.rowOf (fun j hj=>by unfold gT RS.bit;rw[List.getElem?_map,List.getElem?_range hj];rfl)));unfold j8 at HEN;have HO:Hid (s.C.arr.all (·.oneCell')=true):=Lib.hid s.C.arr_one;have HSZ:Hid ((Tryz.prog.info? 25).map (·.size)=some s.C.arr.size):=Lib.hid (by rw[s.C.arr_size];exact aS);have HZZ:Hid (lZ.size=s.C.arr.size):=Lib.hid (by rw[s.C.arr_size];rfl);obtain⟨CA,hCA⟩:=af s.C.arr
 rw[<-hCA]at HCF HO HSZ HZZ;rw[<-hFi]at HST;unfold gd;rw[<-hF];obtain⟨n,hn2⟩:=af s.statN
 obtain⟨b,hb2⟩:=af s.bit
 obtain⟨SLn,hSL⟩:∃x,x=gT s n:=⟨_,rfl⟩
 rw[<-hn2]at HST HEN ⊢;rw[<-hSL]at HST HEN;rw[<-hb2]at HEN ⊢;obtain⟨m,hm⟩:=af (5+(aq b n+7) / 8)
 rw[<-hm]at HEN ⊢;clear h hd hn h0 hF hFi hCA hn2 hb2 hSL hm;go_enter Tryz.func36,Tryz.ntmps36;go_upto_region 2 with (first
  | (go_at_call 11;refine(HCF.out).mono ?_;rintro e w2 ⟨rfl,hb⟩;have B2:=Lib.hid hb;clear hb)
  | (refine wpList_store_row rfl _ _ _ rfl w2.heap.size CA rfl rfl 25 lZ (ae.new w2 _ _) HSZ.out HZZ.out HO.out ?_))
 refine ah (fun V=>Below w.heap.size w V) (B2.out.trans ((al ((Below.refl _ w2).alloc ay _) ay _).mono B2.out.size)) ?_;intro V2 hX;have X2:=Lib.hid hX;clear hX;go_wp2_with (first
  | (go_at_call 58;refine(HST.out _ X2.out).mono ?_;rintro e w3 ⟨A5,c5,rfl,h5,_,hb⟩;have H5:=Lib.hid h5;have B3:=Lib.hid (X2.out.trans (hb.mono X2.out.size));clear h5 hb)
  | (go_at_call 40;refine(HEN.out _ A5 c5 H5.out).mono ?_;rintro e w4 ⟨g2,cap,rfl,hc,hr,hb⟩;have HC:=Lib.hid hc;have HR:=Lib.hid hr;have B4:=Lib.hid (B3.out.trans (hb.mono B3.out.size));clear hc hr hb))
 go_ret2
 exact⟨g2,cap,rfl,HC.out,HR.out,B4.out⟩
end Go.Proofs.YtbfpdnnphdagjaaGreat
