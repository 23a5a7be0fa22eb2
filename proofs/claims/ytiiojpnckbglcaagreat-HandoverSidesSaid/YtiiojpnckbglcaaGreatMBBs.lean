import Derived.Test.YtiiojpnckbglcaaGreatDXs
import Derived.Test.YtiiojpnckbglcaaGreatDLs
import Derived.Test.YtiiojpnckbglcaaGreatMVMs
import Derived.Test.YtiiojpnckbglcaaGreatMYHs
import Derived.Test.YtiiojpnckbglcaaGreatMVJs
import Derived.Test.YtiiojpnckbglcaaGreatVAs
import Derived.Test.YtiiojpnckbglcaaGreatMVSs
import Derived.Test.YtiiojpnckbglcaaGreatMYAs
import Derived.Test.YtiiojpnckbglcaaGreatMRLs
import Derived.Test.YtiiojpnckbglcaaGreatMZAs
import Derived.Test.YtiiojpnckbglcaaGreatMCFs
import Derived.Test.YtiiojpnckbglcaaGreatMZOs
import Derived.Test.YtiiojpnckbglcaaGreatTAs
import Derived.Test.YtiiojpnckbglcaaGreatSEs
import Derived.Test.YtiiojpnckbglcaaGreatDTs
import Derived.Test.YtiiojpnckbglcaaGreatMDAs
import Derived.Laws.Bits64b
import Derived.StillTailTactics
import Derived.BigRegion
import Derived.Deep.MidRow
import Derived.BigQuiet
import Derived.Lib.SlBytesConst
set_option maxRecDepth 100000
set_option maxHeartbeats 3200000
set_option linter.unusedVariables false
set_option linter.unusedSimpArgs false
namespace Go.Proofs.YtiiojpnckbglcaaGreat
open Go.RowKit
section
variable (P:Nat->SV)
def zi (S:Nat->Bool) (a m:Nat):List SV:=((List.range' a m).filter S).map P
variable {P}
end
structure BS (cf:aZ) (P:Nat->SV) (N:Nat) (S:Nat->Bool) (d:Nat) (s:RS):Prop where
 C:s.C=cf
 run:s.run=false
 deliver:s.deliver=(d:Int)
 le:d<=N
 L:s.L=zi P S d (N-d)
 pre:∀k,k < d->S k=true
 gap:d < N->S d=false
 next:s.next<=(N:Int)
section
variable {s:RS} {n:Nat} {z:Nat->Nat} {ct:Int}
end
structure ma (s:RS):Prop where
 asc:zc s.L
 rng:∀e,e∈s.L->s.deliver < e.ct/\e.ct < s.next
 le:s.deliver<=s.next
 last:s.next=s.deliver\/∃e,e∈s.L/\e.ct=s.next-1
 win:s.next-s.deliver<=2048
structure Ag where
 P:World->(Nat->Prop)->Prop
 keep:∀{w w':World} {O F:Nat->Prop},P w O->aa F w w'->(∀k,F k->¬O k)->P w' O
 lt:∀{w:World} {O:Nat->Prop},P w O->∀k,O k->k < w.heap.size
section
variable {w0 w w':World} {n:Nat} {A A':Nat->Ag}
end
end Go.Proofs.YtiiojpnckbglcaaGreat
namespace Go.Proofs.YtiiojpnckbglcaaGreat
open Go.RowKit
attribute [local go_sem ↓] Go.wp_at_zero Go.wp_at_succ
def fA (l:List PV):Nat:=(l.filter (·.rep)).length
theorem pZ {l:List PV} {k:Nat} {p:PV} (h:l[k]? = some p):fA (l.take (k+1))=fA (l.take k)+if p.rep=true then 1 else 0:=by
 unfold fA;rw[List.take_add_one,h,List.filter_append,List.length_append];congr 1
 cases hp:p.rep<;>simp[hp]
theorem tk (l:List PV):fA l<=l.length:=List.length_filter_le _ _
theorem oe (g:Nat) (s:TS) (W R:Nat->Prop) (w:World) (hI:dK w g s W R) (hl:s.P.length<=1000000):Calls Tryz.prog 16 #[.pointer (some ⟨g,0,none⟩)] w fun e w'=>e=.returned (.int .i64 (fA s.P:Nat))/\Below w.heap.size w w':=by
 obtain⟨qA,qc,lq,pA,pc,lp,ub,cb,m⟩:=hI;have HM:=Lib.hid m;have HPV:=Lib.hid m.pv;obtain⟨n,hn⟩:=af lp.length
 have hpn:s.P.length=n:=by rw[<-m.pv,List.length_map,hn]
 have HLN:=Lib.hid hn;have HPN:=Lib.hid hpn;obtain⟨P,hP⟩:=af s.P
 rw[<-hP]at HPV HPN ⊢;have n0:(0:Int)<=(n:Int):=by omega
 have n9:(n:Int)<=1000000:=by omega
 have cp:w.cell? ⟨g,43,none⟩=some (.slice pA n pc):=by rw[hn];exact m.cp
 clear hP hpn hn hl m;go_enter Tryz.func16,Tryz.ntmps16;go_wp2;go_loopw [3,13] (fun v3 v13 wr=>∃k:Nat,k<=n/\v13=.int .i64 k/\v3=.int .i64 (fA (P.take k):Nat)/\Below w.heap.size w wr) (fun _ v13 _=>n-(intOf v13).toNat)
 case atStart=>exact⟨0,by omega,rfl,rfl,Below.refl _ _⟩
 case round=>
  obtain⟨k,hk,rfl,rfl,hB⟩:=hrel;have HB:=Lib.hid hB;have k0:(0:Int)<=(k:Int):=by omega
  have hle:=tk (P.take k);rw[List.length_take]at hle;by_cases hlt:k < n
  ·have k1:(k:Int) < (n:Int):=by omega
   obtain⟨e,he⟩:∃e,lp[k]? = some e:=⟨_,List.getElem?_eq_getElem (by rw[<-HLN.out];exact hlt)⟩
   obtain⟨b,o,hA,hb,c0,c1,c2⟩:=(HM.out.below hB).pcell he;have hPk:P[k]? = some e.v:=by rw[<-HPV.out,List.getElem?_map,he];rfl
   have HS:=Lib.hid (pZ hPk);obtain⟨rp,hrp⟩:∃r,r=fA (P.take k):=⟨_,rfl⟩
   rw[<-hrp]at HS hle ⊢;obtain⟨rr,hrr⟩:∃r,r=e.v.rep:=⟨_,rfl⟩
   rw[<-hrr]at c2 HS;have HRG:=Lib.hid (show wr.rangeAt b (o+k*3) [.int .u32 e.v.ct,.slice e.A e.v.n e.c,.bool rr]from fun j v hv=>by
    have hj:j < 3:=(List.getElem?_eq_some_iff.1 hv).1;rcases (by omega:j=0\/j=1\/j=2)with rfl | rfl | rfl
    ·exact c0.trans (by simpa using hv)
    ·exact c1.trans (by simpa using hv)
    ·exact c2.trans (by simpa using hv))
   have HBL:=Lib.hid hb;subst hA;have r0:(0:Int)<=(rp:Int):=by omega
   have r1:(rp:Int)<=1000000:=by omega
   have HLT:=Lib.hid hlt;clear he hPk hrp hrr hB hle hlt c0 c1 c2 hb;go_upto_region 6 with (first
    | (refine wpList_load_mid rfl _ _ rfl b (o+k*3) rfl [.int .u32 e.v.ct,.slice e.A e.v.n e.c,.bool rr] _ HRG.out Tryz.underlying94 rfl (by kernel_rfl) ?_)
    | (refine wpList_store_row rfl _ _ _ rfl wr.heap.size #[.int .u32 e.v.ct,.slice e.A e.v.n e.c,.bool rr] rfl rfl 94 #[.int .u32 0,.slice none 0 0,.bool false] (ae.new _ _ _) (by kernel_rfl) rfl rfl ?_))
   refine ag (fun V=>V.cell? ⟨wr.heap.size,2,none⟩=some (.bool rr)/\Below w.heap.size w V) ⟨(ae.new wr 94 #[.int .u32 e.v.ct,.slice e.A e.v.n e.c,.bool rr]).cell 2,HB.out.alloc HB.out.size _⟩ ?_;rintro V ⟨v1,v2⟩;obtain⟨xb,hxb⟩:=af wr.heap.size
   rw[<-hxb]at v1 ⊢;have HV:=Lib.hid v2;clear v2 hxb
   cases rr
   ·go_wp2;go_roundw
    case rel=>exact⟨k+1,HLT.out,by go_num,by rw[HS.out];simp,HV.out⟩
    case measure=>have:=HLT.out;simp[intOf];omega
   ·go_wp2;go_roundw
    case rel=>exact⟨k+1,HLT.out,by go_num,by rw[HS.out];simp,HV.out⟩
    case measure=>have:=HLT.out;simp[intOf];omega
  ·obtain rfl:n=k:=by omega
   have k1:¬(n:Int) < (n:Int):=by omega
   have HE:=Lib.hid (show fA (P.take n)=fA P by rw[List.take_of_length_le (Nat.le_of_eq HPN.out)]);rw[HE.out];clear hB hle hlt;go_wp2;go_ret
   exact⟨rfl,HB.out⟩
end Go.Proofs.YtiiojpnckbglcaaGreat
namespace Go.Proofs.YtiiojpnckbglcaaGreat
open Go.RowKit
theorem dK.winr {w:World} {g:Nat} {s:TS} {W R:Nat->Prop} (h:dK w g s W R):(∀k,W k->k < w.heap.size)/\∀k,R k->k < w.heap.size:=by
 obtain⟨qA,qc,lq,pA,pc,lp,ub,cb,h⟩:=h
 exact⟨h.win,h.rin⟩
section
variable {w0 w w' V:World} {n:Nat} {A:Nat->Ag} {i:Nat}
end
end Go.Proofs.YtiiojpnckbglcaaGreat
