import Derived.Test.YtiiojpnckbglcaaGreatMMEs
import Derived.Deep.QuietTactic
set_option maxRecDepth 100000
set_option maxHeartbeats 1600000
set_option linter.unusedVariables false
set_option linter.unusedSimpArgs false
namespace Go.Proofs.YtiiojpnckbglcaaGreat
open Go.RowKit
def fb (z:Nat->Int) (j:Nat):Int:=if j=0 then 16 else z (j-1)
def qX (k f:Int) (A:Option Addr) (n c:Nat) (B:Option Addr) (m d:Nat):Array Value:=#[.int .i64 k,.int .u32 f,.slice A n c,.slice B m d]
theorem rZ (k f:Int) (A1 B1 A2 B2:Option Addr) (n m c1 c2 d1 d2:Nat) (b:Nat->Bool) (z:Nat->Int) (w:World) (hn:n<=maxLen)
  (rA1:au w w.heap.size A1 n (fun j=>.bool (b j))) (rB1:au w w.heap.size B1 n (fun j=>.bool (b j)))
  (rA2:au w w.heap.size A2 m (fun j=>.int .u8 (z j))) (rB2:au w w.heap.size B2 m (fun j=>.int .u8 (z j))) :
  Calls Tryz.prog 31 #[.agg (qX k f A1 n c1 A2 m d1),.agg (qX k f B1 n c2 B2 m d2)] w fun e w'=>e=.returned (.bool true)/\Below w.heap.size w w':=by
 have HA:=Lib.hid rA1;have HB:=Lib.hid rB1;obtain⟨W1,hW1⟩:=af ((w.alloc (.cells (qX k f A1 n c1 A2 m d1) 72)).alloc (.cells (qX k f B1 n c2 B2 m d2) 72))
 have b1:Below w.heap.size w W1:=by rw[hW1];exact((Below.refl w.heap.size w).alloc ao _).alloc (by simp) _
 have s1:=bU 44 9 5 Tryz.underlying44 Tryz.underlying5 Tryz.underlying9 (rA2.below b1) d1;have s2:=bU 44 9 5 Tryz.underlying44 Tryz.underlying5 Tryz.underlying9 (rB2.below b1) d2;rw[hW1]at s1 s2;clear hW1 rA1 rB1 rA2 rB2;unfold qX at *;unfold maxLen at hn;go_enter Tryz.func31,Tryz.ntmps31;go_wp2;obtain⟨W2,hW2⟩:=af ((w.alloc (.cells #[.int .i64 k,.int .u32 f,.slice A1 n c1,.slice A2 m d1] 72)).alloc (.cells #[.int .i64 k,.int .u32 f,.slice B1 n c2,.slice B2 m d2] 72))
 have b2:Below w.heap.size w W2:=by rw[hW2];exact((Below.refl w.heap.size w).alloc ao _).alloc (by simp) _
 have B1k:ae W2 w.heap.size 72 #[.int .i64 k,.int .u32 f,.slice A1 n c1,.slice A2 m d1]:=by rw[hW2];exact(ae.new _ _ _).alloc _
 have B2k:ae W2 (w.heap.size+1) 72 #[.int .i64 k,.int .u32 f,.slice B1 n c2,.slice B2 m d2]:=by
  rw[hW2];have:=ae.new (w.alloc (.cells #[.int .i64 k,.int .u32 f,.slice A1 n c1,.slice A2 m d1] 72)) 72 #[.int .i64 k,.int .u32 f,.slice B1 n c2,.slice B2 m d2]
  rwa [World.size_alloc]at this
 rw[<-hW2];have HW2:=Lib.hid hW2;clear hW2 s1 s2;have cA:W2.cell? ⟨w.heap.size,2,none⟩=some (.slice A1 n c1):=B1k.cell 2;have cB:W2.cell? ⟨w.heap.size+1,2,none⟩=some (.slice B1 n c2):=B2k.cell 2;go_loopw [5] (fun v wr=>∃i:Nat,i<=n/\v=.int .i64 i/\∃d,wr=W2.drewN d) (fun v _=>n-(intOf v).toNat)
 case atStart=>exact⟨0,Nat.zero_le _,rfl,0,rfl⟩
 case round=>
  obtain⟨i,hi,rfl,d,rfl⟩:=hrel;by_cases hlt:i < n
  ·obtain⟨b3,o,rfl,hb3,hc⟩:=HA.out (by omega);obtain⟨b4,o',rfl,hb4,hc'⟩:=HB.out (by omega);have hi1:W2.cell? ⟨b3,o+i,none⟩=some (.bool (b i)):=(b2.cell (p:=⟨b3,o+i,none⟩) hb3).trans (hc i hlt);have hi2:W2.cell? ⟨b4,o'+i,none⟩=some (.bool (b i)):=(b2.cell (p:=⟨b4,o'+i,none⟩) hb4).trans (hc' i hlt);have e0:(b i != b i)=false:=by simp
   have g1:(0:Int)<=(i:Int):=by omega
   have g2:(i:Int) < (n:Int):=by omega
   clear hc hc';go_wp2;go_quiet (fail);go_wp2;go_roundw
   case rel=>exact⟨i+1,by omega,by go_num,_,rfl⟩
   case measure=>simp[intOf];omega
  ·go_wp2;go_ret
   exact⟨rfl,aE b2 _⟩
def fu (z:Nat->Int):Nat->Int
 | 0=>0
 | r+1=>256*fu z r+z r
theorem Tryz.infoBool:(Tryz.prog.info? 4).map (fun i=>(i.zero,i.size,i.bytes))=some (some (.bool false),1,1):=by kernel_rfl
def pay (z:Nat->Int) (j:Nat):Int:=z (4+j)
def ll (m:Nat) (z:Nat->Int):Nat:=aC (bO (pay z)) (8*(m-4))
def dE (m:Nat) (z:Nat->Int):Int:=if m < 4 then 5 else if 260 < m then 4 else if 2047 < ll m z then 4 else if 4 < m/\z (m-1)=0 then 9 else 0
theorem ae.four {w:World} {g:Nat} {t:TypeId} {a b c d:Value} (h:ae w g t #[a,b,c,d]) :
  w.cell? ⟨g,0,none⟩=some a/\w.cell? ⟨g,1,none⟩=some b/\w.cell? ⟨g,2,none⟩=some c/\w.cell? ⟨g,3,none⟩=some d/\w.frozen? ⟨g,0,none⟩=false/\w.frozen? ⟨g,1,none⟩=false/\w.frozen? ⟨g,2,none⟩=false/\w.frozen? ⟨g,3,none⟩=false:=
 ⟨h.cell 0,h.cell 1,h.cell 2,h.cell 3,h.frozen 0,h.frozen 1,h.frozen 2,h.frozen 3⟩
end Go.Proofs.YtiiojpnckbglcaaGreat
