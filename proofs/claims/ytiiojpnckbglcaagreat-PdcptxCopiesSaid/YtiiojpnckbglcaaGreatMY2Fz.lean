import Derived.Test.YtiiojpnckbglcaaGreatSCz
import Derived.Test.YtiiojpnckbglcaaGreatSEz
import Derived.Test.YtiiojpnckbglcaaGreatY2Rz
import Derived.Test.YtiiojpnckbglcaaGreatMY2Dz
import Derived.BigQuiet
set_option linter.unusedVariables false
set_option linter.unusedSimpArgs false
namespace Go.Proofs.YtiiojpnckbglcaaGreat
open Go.RowKit
section
variable {w w':World} {B B':Nat} {A A2 A' A2':Option Addr} {c c2 c' c2':Nat} {P:List PV} {Q:List QV}
theorem sF {n k:Nat} {l:List PE} {e:PE} (hs:SL w 68 2 A n c (l.flatMap PE.cc)) (hn:n=l.length) (he:l[k]? = some e) (hr:av w w.heap.size e.A e.v.n (fun j=>.int .u8 (e.v.z j))):tv w A k e.v.ct e.v.n e.v.z:=by
 have hk:k < n:=by rw[hn];exact(List.getElem?_eq_some_iff.1 he).1
 obtain⟨b,o,hA,hb⟩:=hs.some_ (by omega)
 have hc:∀j,j < 2->w.cell? ⟨b,o+k*2+j,none⟩=(PE.cc e)[j]?:=fun j hj=>by
  have:=hs.cell hA (j:=k*2+j) (by omega)
  rw[<-Nat.add_assoc]at this
  rw[this]
  exact be PE.cc 2 (fun _=>rfl) l k j e he hj
 exact⟨b,o,e.A,e.c,hA,hb,hc 0 (by decide),hc 1 (by decide),hr⟩
theorem sG {n k:Nat} {l:List WE} {e:WE} (hs:SL w 44 1 A n c (l.flatMap WE.cc)) (hn:n=l.length) (he:l[k]? = some e) (hr:av w w.heap.size e.A e.v.n (fun j=>.int .u8 (e.v.z j))):tu w A k e.v.n e.v.z:=by
 have hk:k < n:=by rw[hn];exact(List.getElem?_eq_some_iff.1 he).1
 obtain⟨b,o,hA,hb⟩:=hs.some_ (by omega)
 have hc:w.cell? ⟨b,o+k,none⟩=(WE.cc e)[0]?:=by
  have:=hs.cell hA (j:=k*1+0) (by omega)
  rw[Nat.mul_one,Nat.add_zero]at this
  rw[this]
  have h2:=be WE.cc 1 (fun _=>rfl) l k 0 e he (by decide)
  rw[Nat.mul_one,Nat.add_zero]at h2
  exact h2
 exact⟨b,o,e.A,e.c,hA,hb,hc,hr⟩
structure FX (w:World) (A:Option Addr) (c:Nat) (A2:Option Addr) (c2:Nat) (P:List PV) (Q:List QV):Prop where
 p:∃lp:List PE,lp.map (·.v)=P/\SL w 68 2 A P.length c (lp.flatMap PE.cc)/\∀e,e∈lp->av w w.heap.size e.A e.v.n (fun j=>.int .u8 (e.v.z j))
 q:∃lq:List WE,lq.map (·.v)=Q/\SL w 44 1 A2 Q.length c2 (lq.flatMap WE.cc)/\∀e,e∈lq->av w w.heap.size e.A e.v.n (fun j=>.int .u8 (e.v.z j))
theorem FX.below (h:FX w A c A2 c2 P Q) (hb:Below w.heap.size w w'):FX w' A c A2 c2 P Q:=by
 obtain⟨⟨lp,h1,h2,h3⟩,⟨lq,h4,h5,h6⟩⟩:=h
 exact⟨⟨lp,h1,h2.next hb,fun e he=>(h3 e he).next hb⟩,⟨lq,h4,h5.next hb,fun e he=>(h6 e he).next hb⟩⟩
theorem tT.fx {pA qA:Option Addr} {pc qc:Nat} {lp:List PE} {lq:List WE} (h:tT w B P Q pA pc lp qA qc lq):lp.length=P.length/\lq.length=Q.length/\FX w pA pc qA qc P Q:=by
 have e1:lp.length=P.length:=by rw[<-h.pv,List.length_map]
 have e2:lq.length=Q.length:=by rw[<-h.qv,List.length_map]
 exact⟨e1,e2,⟨lp,h.pv,by rw[<-e1];exact h.p,fun e he=>(h.pe e he).row⟩,⟨lq,h.qv,by rw[<-e2];exact h.q,fun e he=>(h.qe e he).row⟩⟩
theorem rO (h1:FX w A c A2 c2 P Q) (h2:FX w A' c' A2' c2' P Q):jO w A A' P.length/\jx w A2 A2' Q.length:=by
 obtain⟨⟨lp,p1,p2,p3⟩,⟨lq,q1,q2,q3⟩⟩:=h1
 obtain⟨⟨lp',p1',p2',p3'⟩,⟨lq',q1',q2',q3'⟩⟩:=h2
 have hl:P.length=lp.length:=by rw[<-p1,List.length_map]
 have hl':P.length=lp'.length:=by rw[<-p1',List.length_map]
 have hm:Q.length=lq.length:=by rw[<-q1,List.length_map]
 have hm':Q.length=lq'.length:=by rw[<-q1',List.length_map]
 refine⟨fun k hk=>?_,fun k hk=>?_⟩
 ·have e1:lp[k]? = some lp[k]:=List.getElem?_eq_getElem (by omega)
  have e2:lp'[k]? = some lp'[k]:=List.getElem?_eq_getElem (by omega)
  have hv:lp[k].v=lp'[k].v:=by
   have h3:(lp.map (·.v))[k]? = some lp[k].v:=by rw[List.getElem?_map,e1];rfl
   have h4:(lp'.map (·.v))[k]? = some lp'[k].v:=by rw[List.getElem?_map,e2];rfl
   rw[p1]at h3
   rw[p1',h3]at h4
   exact Option.some.inj h4
  have g1:=sF p2 hl e1 (p3 _ (List.mem_of_getElem? e1))
  have g2:=sF p2' hl' e2 (p3' _ (List.mem_of_getElem? e2))
  rw[<-hv]at g2
  exact⟨_,_,_,_,g1,g2,fun j _=>rfl⟩
 ·have e1:lq[k]? = some lq[k]:=List.getElem?_eq_getElem (by omega)
  have e2:lq'[k]? = some lq'[k]:=List.getElem?_eq_getElem (by omega)
  have hv:lq[k].v=lq'[k].v:=by
   have h3:(lq.map (·.v))[k]? = some lq[k].v:=by rw[List.getElem?_map,e1];rfl
   have h4:(lq'.map (·.v))[k]? = some lq'[k].v:=by rw[List.getElem?_map,e2];rfl
   rw[q1]at h3
   rw[q1',h3]at h4
   exact Option.some.inj h4
  have g1:=sG q2 hm e1 (q3 _ (List.mem_of_getElem? e1))
  have g2:=sG q2' hm' e2 (q3' _ (List.mem_of_getElem? e2))
  rw[<-hv]at g2
  exact⟨_,_,_,g1,g2,fun j _=>rfl⟩
end
def ua (s:TS) (w:World) (e:Ending) (w':World):Prop:=
 ∃A c A2 c2,e=.returned (.agg #[.int .u32 (s.next % 4294967296),.bool (decide (s.next=4294967296)),.slice A s.P.length c,.slice A2 s.Q.length c2])/\FX w' A c A2 c2 s.P s.Q/\Below w.heap.size w w'
theorem mj (g:Nat) (s:TS) (W R:Nat->Prop) (w:World) (h:bC w g s W R) (hf:s.P.length<=1000000/\s.Q.length<=1000000):Calls Tryz.prog 15 #[.pointer (some ⟨g,0,none⟩)] w (ua s w):=by
 refine(nl g s W R w h hf).mono ?_
 rintro e w' ⟨pA,pc,lp,qA,qc,lq,he,hF,hB⟩
 obtain⟨e1,e2,hx⟩:=hF.fx
 exact⟨pA,pc,qA,qc,by rw[he,e1,e2],hx,hB⟩
end Go.Proofs.YtiiojpnckbglcaaGreat
namespace Go.Proofs.YtiiojpnckbglcaaGreat
open Go.RowKit
attribute [local go_sem ↓] Go.wp_at_zero Go.wp_at_succ
def eA (l:List PV):Nat:=(l.filter (·.rep)).length
theorem mL {l:List PV} {k:Nat} {p:PV} (h:l[k]? = some p):eA (l.take (k+1))=eA (l.take k)+if p.rep=true then 1 else 0:=by
 unfold eA
 rw[List.take_add_one,h,List.filter_append,List.length_append]
 congr 1
 cases hp:p.rep<;>simp[hp]
theorem pC (l:List PV):eA l<=l.length:=List.length_filter_le _ _
set_option maxRecDepth 100000 in
set_option maxHeartbeats 3200000 in
theorem lj (g:Nat) (s:TS) (W R:Nat->Prop) (w:World) (hI:bC w g s W R) (hl:s.P.length<=1000000):Calls Tryz.prog 16 #[.pointer (some ⟨g,0,none⟩)] w fun e w'=>e=.returned (.int .i64 (eA s.P:Nat))/\Below w.heap.size w w':=by
 obtain⟨qA,qc,lq,pA,pc,lp,ub,cb,m⟩:=hI
 have HM:=Lib.hid m
 have HPV:=Lib.hid m.pv
 obtain⟨n,hn⟩:=af lp.length
 have hpn:s.P.length=n:=by rw[<-m.pv,List.length_map,hn]
 have HLN:=Lib.hid hn
 have HPN:=Lib.hid hpn
 obtain⟨P,hP⟩:=af s.P
 rw[<-hP]at HPV HPN ⊢
 have n0:(0:Int)<=(n:Int):=by omega
 have n9:(n:Int)<=1000000:=by omega
 have cp:w.cell? ⟨g,43,none⟩=some (.slice pA n pc):=by rw[hn];exact m.cp
 clear hP hpn hn hl m
 go_enter Tryz.func16,Tryz.ntmps16
 go_wp2
 go_loopw [3,13] (fun v3 v13 wr=>∃k:Nat,k<=n/\v13=.int .i64 k/\v3=.int .i64 (eA (P.take k):Nat)/\Below w.heap.size w wr) (fun _ v13 _=>n-(intOf v13).toNat)
 case atStart=>exact⟨0,by omega,rfl,rfl,Below.refl _ _⟩
 case round=>
  obtain⟨k,hk,rfl,rfl,hB⟩:=hrel
  have HB:=Lib.hid hB
  have k0:(0:Int)<=(k:Int):=by omega
  have hle:=pC (P.take k)
  rw[List.length_take]at hle
  by_cases hlt:k < n
  ·have k1:(k:Int) < (n:Int):=by omega
   obtain⟨e,he⟩:∃e,lp[k]? = some e:=⟨_,List.getElem?_eq_getElem (by rw[<-HLN.out];exact hlt)⟩
   obtain⟨b,o,hA,hb,c0,c1,c2⟩:=(HM.out.below hB).pcell he
   have hPk:P[k]? = some e.v:=by rw[<-HPV.out,List.getElem?_map,he];rfl
   have HS:=Lib.hid (mL hPk)
   obtain⟨rp,hrp⟩:∃r,r=eA (P.take k):=⟨_,rfl⟩
   rw[<-hrp]at HS hle ⊢
   obtain⟨rr,hrr⟩:∃r,r=e.v.rep:=⟨_,rfl⟩
   rw[<-hrr]at c2 HS
   have HRG:=Lib.hid (show wr.rangeAt b (o+k*3) [.int .u32 e.v.ct,.slice e.A e.v.n e.c,.bool rr]from fun j v hv=>by
    have hj:j < 3:=(List.getElem?_eq_some_iff.1 hv).1
    rcases (by omega:j=0\/j=1\/j=2)with rfl | rfl | rfl
    ·exact c0.trans (by simpa using hv)
    ·exact c1.trans (by simpa using hv)
    ·exact c2.trans (by simpa using hv))
   have HBL:=Lib.hid hb
   subst hA
   have r0:(0:Int)<=(rp:Int):=by omega
   have r1:(rp:Int)<=1000000:=by omega
   have HLT:=Lib.hid hlt
   clear he hPk hrp hrr hB hle hlt c0 c1 c2 hb
   go_upto_region 6 with (first
    | (refine wpList_load_mid rfl _ _ rfl b (o+k*3) rfl [.int .u32 e.v.ct,.slice e.A e.v.n e.c,.bool rr] _ HRG.out Tryz.underlying94 rfl (by kernel_rfl) ?_)
    | (refine wpList_store_row rfl _ _ _ rfl wr.heap.size #[.int .u32 e.v.ct,.slice e.A e.v.n e.c,.bool rr] rfl rfl 94 #[.int .u32 0,.slice none 0 0,.bool false] (ae.new _ _ _) (by kernel_rfl) rfl rfl ?_))
   refine ah (fun V=>V.cell? ⟨wr.heap.size,2,none⟩=some (.bool rr)/\Below w.heap.size w V) ⟨(ae.new wr 94 #[.int .u32 e.v.ct,.slice e.A e.v.n e.c,.bool rr]).cell 2,HB.out.alloc HB.out.size _⟩ ?_
   rintro V ⟨v1,v2⟩
   obtain⟨xb,hxb⟩:=af wr.heap.size
   rw[<-hxb]at v1 ⊢
   have HV:=Lib.hid v2
   clear v2 hxb
   cases rr
   ·go_wp2
    go_roundw
    case rel=>exact⟨k+1,HLT.out,by go_num,by rw[HS.out];simp,HV.out⟩
    case measure=>have:=HLT.out;simp[intOf];omega
   ·go_wp2
    go_roundw
    case rel=>exact⟨k+1,HLT.out,by go_num,by rw[HS.out];simp,HV.out⟩
    case measure=>have:=HLT.out;simp[intOf];omega
  ·obtain rfl:n=k:=by omega
   have k1:¬(n:Int) < (n:Int):=by omega
   have HE:=Lib.hid (show eA (P.take n)=eA P by rw[List.take_of_length_le (Nat.le_of_eq HPN.out)])
   rw[HE.out]
   clear hB hle hlt
   go_wp2
   go_ret
   exact⟨rfl,HB.out⟩
end Go.Proofs.YtiiojpnckbglcaaGreat
namespace Go.Proofs.YtiiojpnckbglcaaGreat
open Go.RowKit
theorem bC.moreR {w:World} {g:Nat} {s:TS} {W R R':Nat->Prop} (h:bC w g s W R) (hR:∀k,R k->R' k) (hd:∀k,W k->R' k->False) (hr:∀k,R' k->k < w.heap.size):bC w g s W R':=by
 obtain⟨qA,qc,lq,pA,pc,lp,ub,cb,h⟩:=h
 exact⟨qA,qc,lq,pA,pc,lp,ub,cb,h.blk,h.qv,h.pv,h.q,h.p,h.u,h.k,fun e he=>(h.qe e he).mono hR,fun e he=>(h.pe e he).mono hR,h.pr,h.wg,h.wu,h.wc,h.wq,h.wp,h.kg,h.ku,h.kq,h.kp,hd,h.win,hr,h.now0,h.next0⟩
theorem bC.wins {w:World} {g:Nat} {s:TS} {W R:Nat->Prop} (h:bC w g s W R):(∀k,W k->k < w.heap.size)/\(∀k,R k->k < w.heap.size)/\∀k,W k->R k->False:=by
 obtain⟨qA,qc,lq,pA,pc,lp,ub,cb,h⟩:=h
 exact⟨h.win,h.rin,h.dis⟩
def O5 (w0 w:World) (R:Nat->Prop) (g:Nat) (W:Nat->Prop) (s:TS):Prop:=bC w g s W R/\∀k,W k->w0.heap.size<=k
def sD (w:World) (W:Nat->Prop) (r:NX) (P:World->(Nat->Prop)->(Nat->Prop)->Prop) (e:Ending) (w':World):Prop:=
 ∃A c W' R',e=.returned (.tuple #[.slice A r.n c,.int .u32 r.ct,.int .i64 r.e])/\av w' w'.heap.size A r.n (fun j=>.int .u8 ((r.z j:Nat):Int))/\P w' W' R'/\aa W w w'/\(∀a,A=some a->w.heap.size<=a.block)
section
variable {w0 w w':World} {R R':Nat->Prop} {g g1 g2 g3:Nat} {W W1 W2 W3:Nat->Prop} {s s1 s2 s3:TS} {U:List (Nat->Int)} {k:Nat}
theorem O5.below (h:O5 w0 w R g W s) (hb:Below w.heap.size w w'):O5 w0 w' R g W s:=⟨h.1.below hb,h.2⟩
theorem O5.other (h:O5 w0 w R g W s) (hk:aa W1 w w') (hd:∀k,W1 k->¬W k/\¬R k) (h1:∀k,R k->R' k) (h2:∀k,R' k->R k\/w.heap.size<=k) (h3:∀k,R' k->k < w'.heap.size):O5 w0 w' R' g W s:=by
 obtain⟨i1,i2,i3⟩:=h.1.wins
 refine⟨(h.1.keepF hk hd).moreR h1 (fun k hw hr=>?_) h3,h.2⟩
 rcases h2 k hr with h | h
 ·exact i3 k hw h
 ·have:=i1 k hw;omega
theorem O5.call (h:O5 w0 w R g W s) (hlow:Below w0.heap.size w0 w) (hi:RT k s U) (hk:k<=1000) (x:SV) (hx:iC w0 x) (XC:Array Value) (hXs:XC.size=36) (hX:∀j,j < 36->XC[j]? = some (x.cell j)) :
  Calls Tryz.prog 20 #[.pointer (some ⟨g,0,none⟩),.agg XC] w (sD w W (s.call5 U x).r (fun V W' R'=>O5 w0 V R' g W' (s.call5 U x).r.s/\Below w0.heap.size w0 V/\(∀k,W' k->W k\/w.heap.size<=k)/\(∀k,R k->R' k)/\(∀k,R' k->R k\/w.heap.size<=k)/\∀k,R' k->k < V.heap.size)):=by
 obtain⟨h1,h2⟩:=h
 obtain⟨i1,i2,i3⟩:=h1.wins
 have hs:=hlow.size
 refine(pP g s U W R w h1 k hi hk x (hx.below hlow) (fun a ha hn hw=>?_) XC hXs hX).mono ?_
 ·obtain⟨b,o,e,hb,hc⟩:=hx.row (by omega)
  rw[ha]at e
  cases e
  have:w0.heap.size<=b:=h2 _ hw
  omega
 ·rintro e w' ⟨A,c,W',R',he,hc,hr,hT,hW,hR,hK,hA⟩
  obtain⟨j1,j2,j3⟩:=hT.wins
  refine⟨A,c,W',fun k=>R k\/R' k,he,hr,⟨⟨hT.moreR (fun k hk=>.inr hk) (fun k hw hr=>?_) (fun k hk=>?_),fun k hk=>?_⟩,aa.below hlow hK h2 hs,hW,fun k hk=>.inl hk,fun k hk=>?_,fun k hk=>?_⟩,hK,fun a ha=>(hA a ha).1⟩
  ·rcases hr with hr | hr
   ·rcases hW k hw with h | h
    ·exact i3 k h hr
    ·have:=i2 k hr;omega
   ·exact j3 k hw hr
  ·rcases hk with hk | hk
   ·exact bg (i2 k hk) hK.size
   ·exact j2 k hk
  ·rcases hW k hk with h | h
   ·exact h2 k h
   ·omega
  ·rcases hk with hk | hk
   ·exact .inl hk
   ·exact hR k hk
  ·rcases hk with hk | hk
   ·exact bg (i2 k hk) hK.size
   ·exact j2 k hk
structure nM (w0 w:World) (R:Nat->Prop) (g1:Nat) (W1:Nat->Prop) (s1:TS) (g2:Nat) (W2:Nat->Prop) (s2:TS) (g3:Nat) (W3:Nat->Prop) (s3:TS):Prop where
 a:O5 w0 w R g1 W1 s1
 b:O5 w0 w R g2 W2 s2
 c:O5 w0 w R g3 W3 s3
 d12:∀k,W1 k->¬W2 k
 d13:∀k,W1 k->¬W3 k
 d23:∀k,W2 k->¬W3 k
 low:Below w0.heap.size w0 w
theorem nM.rot (h:nM w0 w R g1 W1 s1 g2 W2 s2 g3 W3 s3):nM w0 w R g2 W2 s2 g3 W3 s3 g1 W1 s1:=⟨h.b,h.c,h.a,h.d23,fun k h1 h2=>h.d12 k h2 h1,fun k h1 h2=>h.d13 k h2 h1,h.low⟩
theorem nM.below (h:nM w0 w R g1 W1 s1 g2 W2 s2 g3 W3 s3) (hb:Below w.heap.size w w'):nM w0 w' R g1 W1 s1 g2 W2 s2 g3 W3 s3:=⟨h.a.below hb,h.b.below hb,h.c.below hb,h.d12,h.d13,h.d23,h.low.trans (hb.mono h.low.size)⟩
theorem nM.call (h:nM w0 w R g1 W1 s1 g2 W2 s2 g3 W3 s3) (hi:RT k s1 U) (hk:k<=1000) (x:SV) (hx:iC w0 x) (XC:Array Value) (hXs:XC.size=36) (hX:∀j,j < 36->XC[j]? = some (x.cell j)) :
  Calls Tryz.prog 20 #[.pointer (some ⟨g1,0,none⟩),.agg XC] w (sD w W1 (s1.call5 U x).r (fun V W' R'=>nM w0 V R' g1 W' (s1.call5 U x).r.s g2 W2 s2 g3 W3 s3)):=by
 obtain⟨i1,i2,i3⟩:=h.a.1.wins
 obtain⟨j1,j2,j3⟩:=h.b.1.wins
 obtain⟨k1,k2,k3⟩:=h.c.1.wins
 refine(h.a.call h.low hi hk x hx XC hXs hX).mono ?_
 rintro e w' ⟨A,c,W',R',he,hr,⟨ho,hl,hW,hR1,hR2,hR3⟩,hK,hA⟩
 refine⟨A,c,W',R',he,hr,⟨ho,h.b.other hK (fun k hk=>⟨h.d12 k hk,i3 k hk⟩) hR1 hR2 hR3,h.c.other hK (fun k hk=>⟨h.d13 k hk,i3 k hk⟩) hR1 hR2 hR3,fun k hk h2=>?_,fun k hk h2=>?_,h.d23,hl⟩,hK,hA⟩
 ·rcases hW k hk with h3 | h3
  ·exact h.d12 k h3 h2
  ·have:=j1 k h2;omega
 ·rcases hW k hk with h3 | h3
  ·exact h.d13 k h3 h2
  ·have:=k1 k h2;omega
theorem O5.export (h:O5 w0 w R g W s) (hf:s.P.length<=1000000/\s.Q.length<=1000000):Calls Tryz.prog 15 #[.pointer (some ⟨g,0,none⟩)] w (ua s w):=mj g s W R w h.1 hf
theorem O5.reps (h:O5 w0 w R g W s) (hf:s.P.length<=1000000):Calls Tryz.prog 16 #[.pointer (some ⟨g,0,none⟩)] w fun e w'=>e=.returned (.int .i64 (eA s.P:Nat))/\Below w.heap.size w w':=lj g s W R w h.1 hf
def t9 (w0 w:World) (R:Nat->Prop) (g:Nat) (W:Nat->Prop) (s:TS) (e:Ending) (w':World):Prop:=
 ∃g2 W2,e=.returned (.pointer (some ⟨g2,0,none⟩))/\O5 w0 w' R g2 W2 s/\O5 w0 w' R g W s/\(∀k,W2 k->w.heap.size<=k/\k < w'.heap.size)/\Below w.heap.size w w'
theorem O5.copy (h:O5 w0 w R g W s) (hlow:Below w0.heap.size w0 w) (hi:RT k s U) (hk:k<=1000):Calls Tryz.prog 21 #[.pointer (some ⟨g,0,none⟩)] w (t9 w0 w R g W s):=by
 have hs:=hlow.size
 have h1:=hi.pl
 have h2:=hi.ql
 refine(qM g s W R w h.1 k hi.comp ⟨by omega,by omega⟩).mono ?_
 rintro e w' ⟨g2,W2,he,hT,hW,hB⟩
 exact⟨g2,W2,he,⟨hT,fun k hk=>bj hs (hW k hk).1⟩,h.below hB,hW,hB⟩
end
end Go.Proofs.YtiiojpnckbglcaaGreat
