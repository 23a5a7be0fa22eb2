import Derived.Test.YtiiojpnckbglcaaGreatMEVs
import Derived.Laws.BitsLemmas
import Derived.BigQuiet
import Derived.Deep.RegionWith
import Derived.Deep.DeepCutAuto
import Derived.Deep.CutRange
import Derived.Deep.CutBlock
import Derived.Laws.StructEq
import Derived.Deep.AppendLies
import Derived.StillTailTactics
set_option maxRecDepth 100000
set_option maxHeartbeats 3200000
set_option linter.unusedVariables false
set_option linter.unusedSimpArgs false
namespace Go.Proofs.YtiiojpnckbglcaaGreat
open Go.RowKit
attribute [local go_sem ↓] Go.wp_at_zero Go.wp_at_succ
structure Rx where
 hops:Int
 ident:Int
 time:Int
 used:Bool
 f0:Int
 f1:Int
 f2:Int
 f3:Int
 f4:Int
 began:Bool
 gen:Int
 step:Int
 need:Bool
 turn:Int
def Rx.zero:Rx:=⟨0,0,0,false,0,0,0,0,0,false,0,0,false,0⟩
def Rx.cells (c:Rx):List Value:=[.int .i64 c.hops,.int .i64 c.ident,.int .i64 c.time,.bool c.used,.int .i64 c.f0,.int .i64 c.f1,.int .i64 c.f2,.int .i64 c.f3,.int .i64 c.f4,.bool c.began,.int .u8 c.gen,.int .i64 c.step,.bool c.need,.int .i64 c.turn]
def Rx.cell (c:Rx) (k:Nat):Value:=c.cells.getD k undef
def an (S:Nat->Rx) (i:Nat) (c:Rx):Nat->Rx:=fun j=>if j=i then c else S j
theorem aW (S:Nat->Rx) (i:Nat) (c:Rx):an S i c i=c:=if_pos rfl
theorem mp (S:Nat->Rx) (i:Nat) (c d:Rx):an (an S i c) i d=an S i d:=by
 funext j;unfold an;split<;>rfl
def sF (made:Bool) (S:Nat->Rx) (T:Int) (j:Nat):Value:=if j=0 then .bool made else if j=225 then .int .i64 T else (S ((j-1) / 14)).cell ((j-1) % 14)
def fO (made:Bool) (S:Nat->Rx) (T:Int):Array Value:=Array.ofFn (n:=226) fun j=>sF made S T j.1
theorem bR (made:Bool) (S:Nat->Rx) (T:Int):(fO made S T).size=226:=by simp[fO]
theorem cZ (made:Bool) (S:Nat->Rx) (T:Int) (j:Nat) (hj:j < 226):(fO made S T)[j]? = some (sF made S T j):=by
 unfold fO;simp[hj]
theorem sh (made:Bool) (S:Nat->Rx) (T:Int) (i k:Nat) (hi:i < 16) (hk:k < 14):(fO made S T)[1+14*i+k]? = some ((S i).cell k):=by
 rw[cZ _ _ _ _ (by omega)];unfold sF;rw[if_neg (by omega),if_neg (by omega),show(1+14*i+k-1) / 14=i by omega,show(1+14*i+k-1) % 14=k by omega]
def CB (w:World) (g:Nat) (made:Bool) (S:Nat->Rx) (T:Int):Prop:=ae w g 137 (fO made S T)
section
variable {w:World} {g:Nat} {made:Bool} {S:Nat->Rx} {T:Int}
theorem CB.made_ (h:CB w g made S T):w.cell? ⟨g,0,none⟩=some (.bool made):=(ae.cell h 0).trans (cZ _ _ _ 0 (by decide))
theorem CB.turn_ (h:CB w g made S T):w.cell? ⟨g,225,none⟩=some (.int .i64 T):=(ae.cell h 225).trans (cZ _ _ _ 225 (by decide))
theorem CB.ctx (h:CB w g made S T) {i:Nat} (hi:i < 16) (k:Nat) (hk:k < 14) {o:Nat} (ho:o=1+14*i):w.cell? ⟨g,o+k,none⟩=some ((S i).cell k):=by
 subst ho;exact(ae.cell h _).trans (sh _ _ _ i k hi hk)
theorem CB.fr (h:CB w g made S T) (j:Nat):w.frozen? ⟨g,j,none⟩=false:=ae.frozen h j
theorem CB.set (h:CB w g made S T) {i:Nat} (hi:i < 16) (k:Nat) (hk:k < 14) {o:Nat} (ho:o=1+14*i) (c:Rx) (hc:∀m,m < 14->m ≠ k->c.cell m=(S i).cell m) {u:Value} (hu:u=c.cell k) :
  CB (w.setCell ⟨g,o+k,none⟩ u) g made (an S i c) T:=by
 subst ho hu;have h2:=ae.set_ h (1+14*i+k) (c.cell k);unfold CB;have e:(fO made S T).setIfInBounds (1+14*i+k) (c.cell k)=fO made (an S i c) T:=by
  apply Array.ext_getElem?;intro j;rw[Array.getElem?_setIfInBounds];by_cases hj:j < 226
  ·rw[cZ _ _ _ j hj,cZ _ _ _ j hj];by_cases hjk:1+14*i+k=j
   ·subst hjk;rw[if_pos rfl,if_pos (by rw[bR];omega)];unfold sF;rw[if_neg (by omega),if_neg (by omega),show(1+14*i+k-1) / 14=i by omega,show(1+14*i+k-1) % 14=k by omega,aW]
   ·rw[if_neg hjk];unfold sF;by_cases h0:j=0
    ·rw[if_pos h0,if_pos h0]
    ·rw[if_neg h0,if_neg h0];by_cases h1:j=225
     ·rw[if_pos h1,if_pos h1]
     ·rw[if_neg h1,if_neg h1];by_cases hi2:(j-1) / 14=i
      ·rw[hi2,aW,hc _ (by omega) (by omega)]
      ·unfold an;rw[if_neg hi2]
  ·rw[Array.getElem?_eq_none (by rw[bR];omega),Array.getElem?_eq_none (by rw[bR];omega)]
   split
   ·rename_i hh;rw[if_neg (by rw[bR];omega)]
   ·rfl
 rw[e]at h2
 exact h2
theorem CB.setTurn (h:CB w g made S T) (U:Int):CB (w.setCell ⟨g,225,none⟩ (.int .i64 U)) g made S U:=by
 have h2:=ae.set_ h 225 (.int .i64 U);have e:(fO made S T).setIfInBounds 225 (.int .i64 U)=fO made S U:=by
  apply Array.ext_getElem?;intro j;rw[Array.getElem?_setIfInBounds];by_cases hj:j < 226
  ·rw[cZ _ _ _ j hj,cZ _ _ _ j hj];by_cases hjk:225=j
   ·subst hjk;rw[if_pos rfl,if_pos (by rw[bR];omega)]
    rfl
   ·rw[if_neg hjk];unfold sF;by_cases h0:j=0
    ·rw[if_pos h0,if_pos h0]
    ·rw[if_neg h0,if_neg h0,if_neg (by omega),if_neg (by omega)]
  ·rw[Array.getElem?_eq_none (by rw[bR];omega),Array.getElem?_eq_none (by rw[bR];omega)]
   split
   ·rename_i hh;rw[if_neg (by rw[bR];omega)]
   ·rfl
 rw[e]at h2
 exact h2
theorem CB.alloc (h:CB w g made S T) (o:Obj):CB (w.alloc o) g made S T:=ae.alloc h o
theorem CB.drew (h:CB w g made S T):CB w.drew g made S T:=h
theorem CB.below {w':World} {B:Nat} (h:CB w g made S T) (hb:Below B w w') (hg:g < B):CB w' g made S T:=ae.below h hb hg
theorem CB.lt (h:CB w g made S T):g < w.heap.size:=ae.lt h
end
theorem iQ (g:Nat) (made:Bool) (S:Nat->Rx) (T:Int) (w:World) (h:CB w g made S T) :
  Calls Tryz.prog 88 #[.pointer (some ⟨g,0,none⟩)] w fun e w'=>e=.returned (.bool (!made))/\w=w':=by
 have h0:=h.made_;clear h;go_enter Tryz.func88,Tryz.ntmps88;go_wp2;go_ret
 exact⟨rfl,rfl⟩
def bK (n:Nat):Int:=if n=0 then 2 else if 9000 < n then 4 else 0
theorem gh (A:Option Addr) (n c:Nat) (w:World) :
  Calls Tryz.prog 43 #[.slice A n c] w fun e w'=>e=.returned (.int .i64 (bK n))/\w=w':=by
 by_cases h0:n=0
 ·subst h0;go_enter Tryz.func43,Tryz.ntmps43;go_wp2;go_ret
  exact⟨rfl,rfl⟩
 ·by_cases h9:9000 < n
  ·have h1:((n:Int) == 0)=false:=by simp;omega
   have h2:(9000:Int) < (n:Int):=by omega
   have he:bK n=4:=by unfold bK;rw[if_neg h0,if_pos h9]
   rw[he];clear he h9;go_enter Tryz.func43,Tryz.ntmps43;go_wp2;go_ret
   exact⟨rfl,rfl⟩
  ·have h1:((n:Int) == 0)=false:=by simp;omega
   have h2:¬(9000:Int) < (n:Int):=by omega
   have he:bK n=0:=by unfold bK;rw[if_neg h0,if_neg h9]
   rw[he];clear he h9;go_enter Tryz.func43,Tryz.ntmps43;go_wp2;go_ret
   exact⟨rfl,rfl⟩
theorem rY (n:Int):bits .and .i64 n 65535=n % 65536:=by
 have h1:(BitVec.ofInt 64 65535).toNat=2 ^ 16-1:=by decide
 have key:(BitVec.ofInt 64 n &&& BitVec.ofInt 64 65535).toNat=(n % ((2 ^ 64:Nat):Int)).toNat % 2 ^ 16:=by
  rw[BitVec.toNat_and,BitVec.toNat_ofInt,h1,Nat.and_two_pow_sub_one_eq_mod]
 show IntKind.i64.wrap ((BitVec.ofInt 64 n &&& BitVec.ofInt 64 65535).toNat:Nat)=n % 65536;rw[key,IntKind.wrap_i64];omega
theorem lT (n:Int):bits .and .i64 n 16777215=n % 16777216:=by
 have h1:(BitVec.ofInt 64 16777215).toNat=2 ^ 24-1:=by decide
 have key:(BitVec.ofInt 64 n &&& BitVec.ofInt 64 16777215).toNat=(n % ((2 ^ 64:Nat):Int)).toNat % 2 ^ 24:=by
  rw[BitVec.toNat_and,BitVec.toNat_ofInt,h1,Nat.and_two_pow_sub_one_eq_mod]
 show IntKind.i64.wrap ((BitVec.ofInt 64 n &&& BitVec.ofInt 64 16777215).toNat:Nat)=n % 16777216;rw[key,IntKind.wrap_i64];omega
theorem j8 (a b c h0 h1 h2 h3 h4 h5 h6 h7 h8:Int) (w:World) (k1:IntKind.i64.wrap (h6-b)=h6-b) (k2:IntKind.i64.wrap (h7-c)=h7-c) :
  Calls Tryz.prog 134 #[.agg #[.int .i64 a,.int .i64 b,.int .i64 c],.agg #[.int .i64 h0,.int .i64 h1,.int .i64 h2,.int .i64 h3,.int .i64 h4,.int .i64 h5,.int .i64 h6,.int .i64 h7,.int .i64 h8]] w fun e w'=>
   e=.returned (.tuple #[.int .i64 ((h6-b) % 65536),.int .i64 ((h7-c) % 16777216)])/\Below w.heap.size w w':=by
 have a1:=rY (h6-b);have a2:=lT (h7-c);go_enter Tryz.func134,Tryz.ntmps134;go_wp2;go_quiet (fail);clear a1 a2 k1 k2;go_wp2;go_ret2
 exact⟨rfl,aE (((Below.refl _ w).alloc ao _).alloc (by simp) _) _⟩
def dX (a0 a1 a2 a3 a4 b0 b1 b2 b3 b4:Int):Bool:=a0 == b0 && (a1 == b1 && (a2 == b2 && (a3 == b3 && a4 == b4)))
theorem tl (a0 a1 a2 a3 a4 b0 b1 b2 b3 b4:Int) (W:World):(binOp .eql 132 (.agg #[.int .i64 a0,.int .i64 a1,.int .i64 a2,.int .i64 a3,.int .i64 a4]) (.agg #[.int .i64 b0,.int .i64 b1,.int .i64 b2,.int .i64 b3,.int .i64 b4])).run Tryz.prog W=.ok (.bool (dX a0 a1 a2 a3 a4 b0 b1 b2 b3 b4)) W:=by
 unfold dX;by_cases h0:a0=b0<;>by_cases h1:a1=b1<;>by_cases h2:a2=b2<;>by_cases h3:a3=b3<;>by_cases h4:a4=b4<;>simp[go_sem,h0,h1,h2,h3,h4]
theorem ud (a0 a1 a2 a3 a4 b0 b1 b2 b3 b4:Int) (W:World):(binOp .neq 132 (.agg #[.int .i64 a0,.int .i64 a1,.int .i64 a2,.int .i64 a3,.int .i64 a4]) (.agg #[.int .i64 b0,.int .i64 b1,.int .i64 b2,.int .i64 b3,.int .i64 b4])).run Tryz.prog W=.ok (.bool (!dX a0 a1 a2 a3 a4 b0 b1 b2 b3 b4)) W:=by
 unfold dX;by_cases h0:a0=b0<;>by_cases h1:a1=b1<;>by_cases h2:a2=b2<;>by_cases h3:a3=b3<;>by_cases h4:a4=b4<;>simp[go_sem,h0,h1,h2,h3,h4]
theorem bC {p:Nat->Prop} (h0:p 0) (h1:p 1) (h2:p 2) (h3:p 3) (h4:p 4) (h5:p 5) (h6:p 6) (h7:p 7) (h8:p 8) (h9:p 9) (h10:p 10) (h11:p 11) (h12:p 12) (h13:p 13) (k:Nat) (hk:k < 14):p k:=by
 match k,hk with
 | 0,_=>exact h0
 | 1,_=>exact h1
 | 2,_=>exact h2
 | 3,_=>exact h3
 | 4,_=>exact h4
 | 5,_=>exact h5
 | 6,_=>exact h6
 | 7,_=>exact h7
 | 8,_=>exact h8
 | 9,_=>exact h9
 | 10,_=>exact h10
 | 11,_=>exact h11
 | 12,_=>exact h12
 | 13,_=>exact h13
section
variable {w:World} {g:Nat} {made:Bool} {S:Nat->Rx} {T:Int} {i o:Nat} {c:Rx}
theorem CB.self (h:CB w g made S T) (i:Nat):CB w g made (an S i (S i)) T:=by
 have:an S i (S i)=S:=by funext j;unfold an;split<;>simp_all
 rw[this];exact h
theorem CB.put (k:Nat) (d:Rx) (h:CB w g made (an S i c) T) (hi:i < 16) (hk:k < 14) (ho:o=1+14*i) (hc:∀m,m < 14->m ≠ k->d.cell m=c.cell m) {u:Value} (hu:u=d.cell k) :
  CB (w.setCell ⟨g,o+k,none⟩ u) g made (an S i d) T:=by
 have:=CB.set h hi k hk ho d (by rw[aW];exact hc) hu
 rwa [mp]at this
theorem CB.hops_ (h:CB w g made (an S i c) T) (hi:i < 16) (ho:o=1+14*i) (v:Int):CB (w.setCell ⟨g,o,none⟩ (.int .i64 v)) g made (an S i { c with hops:=v }) T:=
 CB.put 0 { c with hops:=v } h hi (by decide) ho (fun m hm=>bC (p:=fun m=>m ≠ 0->({ c with hops:=v }:Rx).cell m=c.cell m) (fun h=>absurd rfl h) (fun _=>rfl) (fun _=>rfl) (fun _=>rfl) (fun _=>rfl) (fun _=>rfl) (fun _=>rfl) (fun _=>rfl) (fun _=>rfl) (fun _=>rfl) (fun _=>rfl) (fun _=>rfl) (fun _=>rfl) (fun _=>rfl) m hm) rfl
theorem CB.ident_ (h:CB w g made (an S i c) T) (hi:i < 16) (ho:o=1+14*i) (v:Int):CB (w.setCell ⟨g,o+1,none⟩ (.int .i64 v)) g made (an S i { c with ident:=v }) T:=
 CB.put 1 { c with ident:=v } h hi (by decide) ho (fun m hm=>bC (p:=fun m=>m ≠ 1->({ c with ident:=v }:Rx).cell m=c.cell m) (fun _=>rfl) (fun h=>absurd rfl h) (fun _=>rfl) (fun _=>rfl) (fun _=>rfl) (fun _=>rfl) (fun _=>rfl) (fun _=>rfl) (fun _=>rfl) (fun _=>rfl) (fun _=>rfl) (fun _=>rfl) (fun _=>rfl) (fun _=>rfl) m hm) rfl
theorem CB.time_ (h:CB w g made (an S i c) T) (hi:i < 16) (ho:o=1+14*i) (v:Int):CB (w.setCell ⟨g,o+2,none⟩ (.int .i64 v)) g made (an S i { c with time:=v }) T:=
 CB.put 2 { c with time:=v } h hi (by decide) ho (fun m hm=>bC (p:=fun m=>m ≠ 2->({ c with time:=v }:Rx).cell m=c.cell m) (fun _=>rfl) (fun _=>rfl) (fun h=>absurd rfl h) (fun _=>rfl) (fun _=>rfl) (fun _=>rfl) (fun _=>rfl) (fun _=>rfl) (fun _=>rfl) (fun _=>rfl) (fun _=>rfl) (fun _=>rfl) (fun _=>rfl) (fun _=>rfl) m hm) rfl
theorem CB.used_ (h:CB w g made (an S i c) T) (hi:i < 16) (ho:o=1+14*i) (v:Bool):CB (w.setCell ⟨g,o+3,none⟩ (.bool v)) g made (an S i { c with used:=v }) T:=
 CB.put 3 { c with used:=v } h hi (by decide) ho (fun m hm=>bC (p:=fun m=>m ≠ 3->({ c with used:=v }:Rx).cell m=c.cell m) (fun _=>rfl) (fun _=>rfl) (fun _=>rfl) (fun h=>absurd rfl h) (fun _=>rfl) (fun _=>rfl) (fun _=>rfl) (fun _=>rfl) (fun _=>rfl) (fun _=>rfl) (fun _=>rfl) (fun _=>rfl) (fun _=>rfl) (fun _=>rfl) m hm) rfl
theorem CB.f0_ (h:CB w g made (an S i c) T) (hi:i < 16) (ho:o=1+14*i) (v:Int):CB (w.setCell ⟨g,o+4,none⟩ (.int .i64 v)) g made (an S i { c with f0:=v }) T:=
 CB.put 4 { c with f0:=v } h hi (by decide) ho (fun m hm=>bC (p:=fun m=>m ≠ 4->({ c with f0:=v }:Rx).cell m=c.cell m) (fun _=>rfl) (fun _=>rfl) (fun _=>rfl) (fun _=>rfl) (fun h=>absurd rfl h) (fun _=>rfl) (fun _=>rfl) (fun _=>rfl) (fun _=>rfl) (fun _=>rfl) (fun _=>rfl) (fun _=>rfl) (fun _=>rfl) (fun _=>rfl) m hm) rfl
theorem CB.f1_ (h:CB w g made (an S i c) T) (hi:i < 16) (ho:o=1+14*i) (v:Int):CB (w.setCell ⟨g,o+5,none⟩ (.int .i64 v)) g made (an S i { c with f1:=v }) T:=
 CB.put 5 { c with f1:=v } h hi (by decide) ho (fun m hm=>bC (p:=fun m=>m ≠ 5->({ c with f1:=v }:Rx).cell m=c.cell m) (fun _=>rfl) (fun _=>rfl) (fun _=>rfl) (fun _=>rfl) (fun _=>rfl) (fun h=>absurd rfl h) (fun _=>rfl) (fun _=>rfl) (fun _=>rfl) (fun _=>rfl) (fun _=>rfl) (fun _=>rfl) (fun _=>rfl) (fun _=>rfl) m hm) rfl
theorem CB.f2_ (h:CB w g made (an S i c) T) (hi:i < 16) (ho:o=1+14*i) (v:Int):CB (w.setCell ⟨g,o+6,none⟩ (.int .i64 v)) g made (an S i { c with f2:=v }) T:=
 CB.put 6 { c with f2:=v } h hi (by decide) ho (fun m hm=>bC (p:=fun m=>m ≠ 6->({ c with f2:=v }:Rx).cell m=c.cell m) (fun _=>rfl) (fun _=>rfl) (fun _=>rfl) (fun _=>rfl) (fun _=>rfl) (fun _=>rfl) (fun h=>absurd rfl h) (fun _=>rfl) (fun _=>rfl) (fun _=>rfl) (fun _=>rfl) (fun _=>rfl) (fun _=>rfl) (fun _=>rfl) m hm) rfl
theorem CB.f3_ (h:CB w g made (an S i c) T) (hi:i < 16) (ho:o=1+14*i) (v:Int):CB (w.setCell ⟨g,o+7,none⟩ (.int .i64 v)) g made (an S i { c with f3:=v }) T:=
 CB.put 7 { c with f3:=v } h hi (by decide) ho (fun m hm=>bC (p:=fun m=>m ≠ 7->({ c with f3:=v }:Rx).cell m=c.cell m) (fun _=>rfl) (fun _=>rfl) (fun _=>rfl) (fun _=>rfl) (fun _=>rfl) (fun _=>rfl) (fun _=>rfl) (fun h=>absurd rfl h) (fun _=>rfl) (fun _=>rfl) (fun _=>rfl) (fun _=>rfl) (fun _=>rfl) (fun _=>rfl) m hm) rfl
theorem CB.f4_ (h:CB w g made (an S i c) T) (hi:i < 16) (ho:o=1+14*i) (v:Int):CB (w.setCell ⟨g,o+8,none⟩ (.int .i64 v)) g made (an S i { c with f4:=v }) T:=
 CB.put 8 { c with f4:=v } h hi (by decide) ho (fun m hm=>bC (p:=fun m=>m ≠ 8->({ c with f4:=v }:Rx).cell m=c.cell m) (fun _=>rfl) (fun _=>rfl) (fun _=>rfl) (fun _=>rfl) (fun _=>rfl) (fun _=>rfl) (fun _=>rfl) (fun _=>rfl) (fun h=>absurd rfl h) (fun _=>rfl) (fun _=>rfl) (fun _=>rfl) (fun _=>rfl) (fun _=>rfl) m hm) rfl
theorem CB.began_ (h:CB w g made (an S i c) T) (hi:i < 16) (ho:o=1+14*i) (v:Bool):CB (w.setCell ⟨g,o+9,none⟩ (.bool v)) g made (an S i { c with began:=v }) T:=
 CB.put 9 { c with began:=v } h hi (by decide) ho (fun m hm=>bC (p:=fun m=>m ≠ 9->({ c with began:=v }:Rx).cell m=c.cell m) (fun _=>rfl) (fun _=>rfl) (fun _=>rfl) (fun _=>rfl) (fun _=>rfl) (fun _=>rfl) (fun _=>rfl) (fun _=>rfl) (fun _=>rfl) (fun h=>absurd rfl h) (fun _=>rfl) (fun _=>rfl) (fun _=>rfl) (fun _=>rfl) m hm) rfl
theorem CB.gen_ (h:CB w g made (an S i c) T) (hi:i < 16) (ho:o=1+14*i) (v:Int):CB (w.setCell ⟨g,o+10,none⟩ (.int .u8 v)) g made (an S i { c with gen:=v }) T:=
 CB.put 10 { c with gen:=v } h hi (by decide) ho (fun m hm=>bC (p:=fun m=>m ≠ 10->({ c with gen:=v }:Rx).cell m=c.cell m) (fun _=>rfl) (fun _=>rfl) (fun _=>rfl) (fun _=>rfl) (fun _=>rfl) (fun _=>rfl) (fun _=>rfl) (fun _=>rfl) (fun _=>rfl) (fun _=>rfl) (fun h=>absurd rfl h) (fun _=>rfl) (fun _=>rfl) (fun _=>rfl) m hm) rfl
theorem CB.step_ (h:CB w g made (an S i c) T) (hi:i < 16) (ho:o=1+14*i) (v:Int):CB (w.setCell ⟨g,o+11,none⟩ (.int .i64 v)) g made (an S i { c with step:=v }) T:=
 CB.put 11 { c with step:=v } h hi (by decide) ho (fun m hm=>bC (p:=fun m=>m ≠ 11->({ c with step:=v }:Rx).cell m=c.cell m) (fun _=>rfl) (fun _=>rfl) (fun _=>rfl) (fun _=>rfl) (fun _=>rfl) (fun _=>rfl) (fun _=>rfl) (fun _=>rfl) (fun _=>rfl) (fun _=>rfl) (fun _=>rfl) (fun h=>absurd rfl h) (fun _=>rfl) (fun _=>rfl) m hm) rfl
theorem CB.need_ (h:CB w g made (an S i c) T) (hi:i < 16) (ho:o=1+14*i) (v:Bool):CB (w.setCell ⟨g,o+12,none⟩ (.bool v)) g made (an S i { c with need:=v }) T:=
 CB.put 12 { c with need:=v } h hi (by decide) ho (fun m hm=>bC (p:=fun m=>m ≠ 12->({ c with need:=v }:Rx).cell m=c.cell m) (fun _=>rfl) (fun _=>rfl) (fun _=>rfl) (fun _=>rfl) (fun _=>rfl) (fun _=>rfl) (fun _=>rfl) (fun _=>rfl) (fun _=>rfl) (fun _=>rfl) (fun _=>rfl) (fun _=>rfl) (fun h=>absurd rfl h) (fun _=>rfl) m hm) rfl
theorem CB.turnc_ (h:CB w g made (an S i c) T) (hi:i < 16) (ho:o=1+14*i) (v:Int):CB (w.setCell ⟨g,o+13,none⟩ (.int .i64 v)) g made (an S i { c with turn:=v }) T:=
 CB.put 13 { c with turn:=v } h hi (by decide) ho (fun m hm=>bC (p:=fun m=>m ≠ 13->({ c with turn:=v }:Rx).cell m=c.cell m) (fun _=>rfl) (fun _=>rfl) (fun _=>rfl) (fun _=>rfl) (fun _=>rfl) (fun _=>rfl) (fun _=>rfl) (fun _=>rfl) (fun _=>rfl) (fun _=>rfl) (fun _=>rfl) (fun _=>rfl) (fun _=>rfl) (fun h=>absurd rfl h) m hm) rfl
theorem CB.hops_b {v:Int} (t0:Int) (h:CB w g made (an S i { c with hops:=t0 }) T) (hi:i < 16) (ho:o=1+14*i) (hv:c.hops=v):CB (w.setCell ⟨g,o,none⟩ (.int .i64 v)) g made (an S i c) T:=by
 have:=h.hops_ hi ho c.hops;rw[<-hv];exact this
theorem CB.ident_b {v:Int} (t0:Int) (h:CB w g made (an S i { c with ident:=t0 }) T) (hi:i < 16) (ho:o=1+14*i) (hv:c.ident=v):CB (w.setCell ⟨g,o+1,none⟩ (.int .i64 v)) g made (an S i c) T:=by
 have:=h.ident_ hi ho c.ident;rw[<-hv];exact this
theorem CB.time_b {v:Int} (t0:Int) (h:CB w g made (an S i { c with time:=t0 }) T) (hi:i < 16) (ho:o=1+14*i) (hv:c.time=v):CB (w.setCell ⟨g,o+2,none⟩ (.int .i64 v)) g made (an S i c) T:=by
 have:=h.time_ hi ho c.time;rw[<-hv];exact this
theorem CB.began_b {v:Bool} (t0:Bool) (h:CB w g made (an S i { c with began:=t0 }) T) (hi:i < 16) (ho:o=1+14*i) (hv:c.began=v):CB (w.setCell ⟨g,o+9,none⟩ (.bool v)) g made (an S i c) T:=by
 have:=h.began_ hi ho c.began;rw[<-hv];exact this
theorem CB.step_b {v:Int} (t0:Int) (h:CB w g made (an S i { c with step:=t0 }) T) (hi:i < 16) (ho:o=1+14*i) (hv:c.step=v):CB (w.setCell ⟨g,o+11,none⟩ (.int .i64 v)) g made (an S i c) T:=by
 have:=h.step_ hi ho c.step;rw[<-hv];exact this
theorem CB.cells (h:CB w g made S T) (hi:i < 16) (ho:o=1+14*i) :
  w.cell? ⟨g,o,none⟩=some (.int .i64 (S i).hops)/\
  w.cell? ⟨g,o+1,none⟩=some (.int .i64 (S i).ident)/\
  w.cell? ⟨g,o+2,none⟩=some (.int .i64 (S i).time)/\
  w.cell? ⟨g,o+3,none⟩=some (.bool (S i).used)/\
  w.cell? ⟨g,o+4,none⟩=some (.int .i64 (S i).f0)/\
  w.cell? ⟨g,o+5,none⟩=some (.int .i64 (S i).f1)/\
  w.cell? ⟨g,o+6,none⟩=some (.int .i64 (S i).f2)/\
  w.cell? ⟨g,o+7,none⟩=some (.int .i64 (S i).f3)/\
  w.cell? ⟨g,o+8,none⟩=some (.int .i64 (S i).f4)/\
  w.cell? ⟨g,o+9,none⟩=some (.bool (S i).began)/\
  w.cell? ⟨g,o+10,none⟩=some (.int .u8 (S i).gen)/\
  w.cell? ⟨g,o+11,none⟩=some (.int .i64 (S i).step)/\
  w.cell? ⟨g,o+12,none⟩=some (.bool (S i).need)/\
  w.cell? ⟨g,o+13,none⟩=some (.int .i64 (S i).turn):=
 ⟨h.ctx hi 0 (by decide) ho,h.ctx hi 1 (by decide) ho,h.ctx hi 2 (by decide) ho,h.ctx hi 3 (by decide) ho,h.ctx hi 4 (by decide) ho,h.ctx hi 5 (by decide) ho,h.ctx hi 6 (by decide) ho,h.ctx hi 7 (by decide) ho,h.ctx hi 8 (by decide) ho,h.ctx hi 9 (by decide) ho,h.ctx hi 10 (by decide) ho,h.ctx hi 11 (by decide) ho,h.ctx hi 12 (by decide) ho,h.ctx hi 13 (by decide) ho⟩
theorem CB.cellsU (h:CB w g made (an S i c) T) (hi:i < 16) (ho:o=1+14*i) :
  w.cell? ⟨g,o,none⟩=some (.int .i64 c.hops)/\
  w.cell? ⟨g,o+1,none⟩=some (.int .i64 c.ident)/\
  w.cell? ⟨g,o+2,none⟩=some (.int .i64 c.time)/\
  w.cell? ⟨g,o+3,none⟩=some (.bool c.used)/\
  w.cell? ⟨g,o+4,none⟩=some (.int .i64 c.f0)/\
  w.cell? ⟨g,o+5,none⟩=some (.int .i64 c.f1)/\
  w.cell? ⟨g,o+6,none⟩=some (.int .i64 c.f2)/\
  w.cell? ⟨g,o+7,none⟩=some (.int .i64 c.f3)/\
  w.cell? ⟨g,o+8,none⟩=some (.int .i64 c.f4)/\
  w.cell? ⟨g,o+9,none⟩=some (.bool c.began)/\
  w.cell? ⟨g,o+10,none⟩=some (.int .u8 c.gen)/\
  w.cell? ⟨g,o+11,none⟩=some (.int .i64 c.step)/\
  w.cell? ⟨g,o+12,none⟩=some (.bool c.need)/\
  w.cell? ⟨g,o+13,none⟩=some (.int .i64 c.turn):=by
 have:=h.cells hi ho
 rwa [aW]at this
end
theorem jS (w:World) (t:TypeId) (cs:Array Value) (n:Nat) (hn:w.heap.size=n):ae (w.alloc (.cells cs t)) n t cs:=by subst hn;exact ae.new w t cs
theorem World.grownBy_refl (w:World) (row:Option Nat):w.grownBy w row:=⟨rfl,rfl,rfl,Nat.le_refl _,fun _ _ _=>rfl⟩
theorem yv {w:World} {g:Nat} {made:Bool} {S:Nat->Rx} {T:Int} {i:Nat} {c d:Rx} (h:CB w g made (an S i d) T) (e:d=c):CB w g made (an S i c) T:=e ▸ h
theorem CB.undrew {w:World} {g:Nat} {made:Bool} {S:Nat->Rx} {T:Int} (h:CB w g made S T):CB w.drew g made S T:=h
theorem ca {w w':World} {row:Option Nat} (h:w.grownBy w' row):w.grownBy w'.drew row:=⟨h.os,h.tape,h.output,h.size,h.block⟩
def dD (c:Rx) (h5 h6 h7 step:Int):Rx:={ c with gen:=if c.began then (c.gen+1) % 256 else c.gen,began:=true,step:=step,hops:=h5,ident:=h6,time:=h7 }
def bI (g:Nat) (w w':World):Prop:=w.grownBy w' (some g)
theorem nO (g i o:Nat) (made:Bool) (S:Nat->Rx) (T:Int) (h0 h1 h2 h3 h4 h5 h6 h7 h8 step:Int) (hi:i < 16) (ho:o=1+14*i) (w:World) (h:CB w g made S T) :
  Calls Tryz.prog 135 #[.pointer (some ⟨g,o,none⟩),.agg #[.int .i64 h0,.int .i64 h1,.int .i64 h2,.int .i64 h3,.int .i64 h4,.int .i64 h5,.int .i64 h6,.int .i64 h7,.int .i64 h8],.int .i64 step] w fun e w'=>
   e=.returned (.tuple #[])/\CB w' g made (an S i (dD (S i) h5 h6 h7 step)) T/\bI g w w':=by
 have hgl:=h.lt;have hne:g ≠ w.heap.size:=by omega
 have hne2:w.heap.size ≠ g:=by omega
 obtain⟨c0,c1,c2,c3,c4,c5,c6,c7,c8,c9,c10,c11,c12,c13⟩:=h.cells hi ho;have z0:=h.fr (o);have z1:=h.fr (o+1);have z2:=h.fr (o+2);have z5:=h.fr (o+5);have z3:=h.fr (o+3);have z9:=h.fr (o+9);have z10:=h.fr (o+10);have z11:=h.fr (o+11);have HH:=zh (h.self i);have HO:=zh ho;have HG:=zh hgl;obtain⟨x,hx⟩:=af (S i)
 rw[<-hx]at HH c0 c1 c2 c3 c4 c5 c6 c7 c8 c9 c10 c11 c12 c13 ⊢;have HX:=zh hx;clear h ho hx;obtain⟨b,hb⟩:=af x.began
 rw[<-hb]at c9;have HB:=zh hb;clear hb;have hbg:dD x h5 h6 h7 step=⟨h5,h6,h7,x.used,x.f0,x.f1,x.f2,x.f3,x.f4,true,if b then (x.gen+1) % 256 else x.gen,step,x.need,x.turn⟩:=by unfold dD;rw[HB.out]
 rw[hbg];clear hbg
 cases b
 focus
  go_enter Tryz.func135,Tryz.ntmps135;go_wp2;obtain⟨W1,hW1⟩:=af (w.alloc (.cells #[.int .i64 h0,.int .i64 h1,.int .i64 h2,.int .i64 h3,.int .i64 h4,.int .i64 h5,.int .i64 h6,.int .i64 h7,.int .i64 h8] 176))
  have KB:=zh (show CB W1 g made (an S i _) T by rw[hW1];exact HH.out.alloc _);have KH:ae W1 w.heap.size 176 #[.int .i64 h0,.int .i64 h1,.int .i64 h2,.int .i64 h3,.int .i64 h4,.int .i64 h5,.int .i64 h6,.int .i64 h7,.int .i64 h8]:=by rw[hW1];exact jS w _ _ _ rfl
  have KG:=zh (show w.grownBy W1 (some g) by rw[hW1];exact World.grownBy_alloc _ _ _)
 rotate_left
 focus
  go_enter Tryz.func135,Tryz.ntmps135;go_wp2;obtain⟨W1,hW1⟩:=af ((w.setCell ⟨g,o+10,none⟩ (.int .u8 ((x.gen+1) % 256))).alloc (.cells #[.int .i64 h0,.int .i64 h1,.int .i64 h2,.int .i64 h3,.int .i64 h4,.int .i64 h5,.int .i64 h6,.int .i64 h7,.int .i64 h8] 176))
  have KB:=zh (show CB W1 g made (an S i _) T by rw[hW1];exact(HH.out.gen_ hi HO.out _).alloc _);have KH:ae W1 w.heap.size 176 #[.int .i64 h0,.int .i64 h1,.int .i64 h2,.int .i64 h3,.int .i64 h4,.int .i64 h5,.int .i64 h6,.int .i64 h7,.int .i64 h8]:=by rw[hW1];exact jS _ _ _ _ (by simp)
  have KG:=zh (show w.grownBy W1 (some g) by rw[hW1];exact(aQ (World.grownBy_refl w _) _ _).trans (World.grownBy_alloc _ _ _))
 all_goals
  rw[<-hW1];clear hW1 c0 c1 c2 c3 c4 c5 c6 c7 c8 c9 c10 c11 c12 c13 z0 z1 z2 z5 z3 z9 z10 z11;obtain⟨d0,d1,d2,d3,d4,d5,d6,d7,d8,d9,d10,d11,d12,d13⟩:=KB.out.cellsU hi HO.out;have y0:=KB.out.fr (o);have y1:=KB.out.fr (o+1);have y2:=KB.out.fr (o+2);have y9:=KB.out.fr (o+9);have y11:=KB.out.fr (o+11);have p5:=KH.cell 5;have p6:=KH.cell 6;have p7:=KH.cell 7;go_region_held3 (fun w'=>w'.cell? ⟨w.heap.size,5,none⟩=some (.int .i64 h5)/\w'.cell? ⟨w.heap.size,6,none⟩=some (.int .i64 h6)/\w'.cell? ⟨w.heap.size,7,none⟩=some (.int .i64 h7)) (go_keep) ((fail))
  all_goals
   go_wp2;go_end0;refine⟨rfl,?_,?_⟩
   ·repeat (first | with_reducible exact KB.out | with_reducible refine CB.undrew ?_ | with_reducible refine CB.began_b x.began ?_ hi HO.out rfl | with_reducible refine CB.step_b x.step ?_ hi HO.out rfl | with_reducible refine CB.hops_b x.hops ?_ hi HO.out rfl | with_reducible refine CB.ident_b x.ident ?_ hi HO.out rfl | with_reducible refine CB.time_b x.time ?_ hi HO.out rfl)
   ·unfold bI;repeat (first | with_reducible exact KG.out | with_reducible refine aQ ?_ _ _ | with_reducible refine ca ?_)
end Go.Proofs.YtiiojpnckbglcaaGreat
namespace Go.Proofs.YtiiojpnckbglcaaGreat
open Go.RowKit
structure ax (W:World) where
 v:World
 h:Below W.heap.size W v
instance ax.inh (W:World):Nonempty (ax W):=⟨⟨W,Below.refl _ _⟩⟩
theorem ax.cell {W:World} (e:ax W) {p:Addr} {x:Value} (hc:W.cell? p=some x) (hp:p.block < W.heap.size):e.v.cell? p=some x:=(e.h.cell hp).trans hc
def ax.next {W:World} (e:ax W) {w':World} (h:Below e.v.heap.size e.v w'):ax W:=⟨w',e.h.trans (h.mono e.h.size)⟩
theorem aS {P:Program} {id:Nat} {Q:Exit->Act->World->Prop} {a:Act} {w:World} {l:List Oper} (hm:P.follows .mixedOrders=true) (hB:Region.lexB .any l.toArray=true)
  (h:wpQuiet P l.toArray (fun w'=>∃e:ax w,w'=e.v) (fun a'=>∀w',(∃e:ax w,w'=e.v)->Q .normal a' w') l a):(Code.region id l.toArray true).wp P Q a w:=
 wp_region_quiet (C:=fun w'=>∃e:ax w,w'=e.v) hm hB ⟨⟨w.drew,(Below.refl _ w).drew⟩,rfl⟩ (by simpa using h)
theorem Calls.ext_of {P:Program} {f:FuncId} {args:Array Value} {W:World} {e:ax W} {v:Value} (h:Calls P f args e.v fun en w'=>en=.returned v/\Below e.v.heap.size e.v w'):Calls P f args e.v fun en w''=>en=.returned v/\∃e':ax W,w''=e'.v:=
 h.mono fun _ _ ⟨h1,h2⟩=>⟨h1,e.next h2,rfl⟩
end Go.Proofs.YtiiojpnckbglcaaGreat
namespace Go.Proofs.YtiiojpnckbglcaaGreat
open Go.RowKit
attribute [local go_sem ↓] Go.wp_at_zero Go.wp_at_succ
def bP (x:Rx) (h6:Int):Int:=(h6-x.ident) % 65536
def kT (x:Rx) (h7:Int):Int:=(h7-x.time) % 16777216
def gN (x:Rx) (h0 h1 h2 h3 h4 h6:Int):Bool:=!x.used || (x.need || (!dX x.f0 x.f1 x.f2 x.f3 x.f4 h0 h1 h2 h3 h4 || (decide (bP x h6 < 1) || decide (255 < bP x h6))))
def eF (x:Rx) (h0 h1 h2 h3 h4 h5 h6 h7:Int):Int:=
 if gN x h0 h1 h2 h3 h4 h6 then 0
 else if h5=x.hops/\kT x h7=x.step*bP x h6 % 16777216 then 2
 else if kT x h7 < 65536 then 1 else 0
structure Rx.Ok (x:Rx):Prop where
 hops:0<=x.hops/\x.hops < 256
 ident:0<=x.ident/\x.ident < 65536
 time:0<=x.time/\x.time < 16777216
 gen:0<=x.gen/\x.gen < 256
 step:0<=x.step/\x.step < 65536
theorem vL (g i o:Nat) (made:Bool) (S:Nat->Rx) (T:Int) (h0 h1 h2 h3 h4 h5 h6 h7 h8:Int) (hi:i < 16) (ho:o=1+14*i) (hok:(S i).Ok) (b6:0<=h6/\h6 < 65536) (b7:0<=h7/\h7 < 16777216) (w:World) (h:CB w g made S T) :
  Calls Tryz.prog 110 #[.pointer (some ⟨g,o,none⟩),.agg #[.int .i64 h0,.int .i64 h1,.int .i64 h2,.int .i64 h3,.int .i64 h4,.int .i64 h5,.int .i64 h6,.int .i64 h7,.int .i64 h8]] w fun e w'=>e=.returned (.int .i64 (eF (S i) h0 h1 h2 h3 h4 h5 h6 h7))/\Below w.heap.size w w':=by
 obtain⟨x,hx⟩:=af (S i)
 rw[<-hx]at hok ⊢;obtain⟨oh,oi,ot,og,os⟩:=hok;have w1:IntKind.i64.wrap (h6-x.ident)=h6-x.ident:=IntWalk.i64_in _ (by omega);have w2:IntKind.i64.wrap (h7-x.time)=h7-x.time:=IntWalk.i64_in _ (by omega);have HA:=zh (fun W=>j8 x.hops x.ident x.time h0 h1 h2 h3 h4 h5 h6 h7 h8 W w1 w2);obtain⟨k,hk⟩:=af (eF x h0 h1 h2 h3 h4 h5 h6 h7)
 rw[<-hk];unfold eF at hk;obtain⟨n,hn⟩:=af (bP x h6)
 obtain⟨t,ht⟩:=af (kT x h7)
 obtain⟨nk,hnk⟩:=af (gN x h0 h1 h2 h3 h4 h6)
 rw[<-hn,<-ht,<-hnk]at hk;unfold gN at hnk;rw[<-hn]at hnk;have n0:0<=n/\n < 65536:=by rw[hn];unfold bP;omega
 have t0:0<=t/\t < 16777216:=by rw[ht];unfold kT;omega
 have hp0:0<=x.step*n:=Int.mul_nonneg os.1 n0.1;have hp1:x.step*n<=65536*65536:=Int.mul_le_mul (by omega) (by omega) n0.1 (by decide);obtain⟨p,hp⟩:=af (x.step*n)
 rw[<-hp]at hk hp0 hp1;have kw:IntKind.i64.wrap (x.step*n)=p:=by rw[<-hp];exact IntWalk.i64_in _ (by omega)
 have kb:=lT p;have hA2:Hid (∀W:World,Calls Tryz.prog 134 #[.agg #[.int .i64 x.hops,.int .i64 x.ident,.int .i64 x.time],.agg #[.int .i64 h0,.int .i64 h1,.int .i64 h2,.int .i64 h3,.int .i64 h4,.int .i64 h5,.int .i64 h6,.int .i64 h7,.int .i64 h8]] W fun e w'=>e=.returned (.tuple #[.int .i64 n,.int .i64 t])/\Below W.heap.size W w'):=by rw[hn,ht];exact HA
 have hneq:=ud x.f0 x.f1 x.f2 x.f3 x.f4 h0 h1 h2 h3 h4;obtain⟨sf,hsf⟩:=af (dX x.f0 x.f1 x.f2 x.f3 x.f4 h0 h1 h2 h3 h4)
 rw[<-hsf]at hneq hnk;obtain⟨n1,n2⟩:=n0;have HX:=zh hx;have HK:=zh hk;have HNK:=zh hnk;have HKW:=zh kw;have HKB:=zh kb;have HO:=zh ho;have HB:=zh h;have HNE:=zh hneq;have HP:=zh hp;clear HA hx hk hnk hsf hp kw kb ho h w1 w2 hn ht hneq;go_enter Tryz.func110,Tryz.ntmps110;go_wp2;obtain⟨hb,hhb⟩:=af w.heap.size
 obtain⟨W1,hW1⟩:=af (w.alloc (.cells #[.int .i64 h0,.int .i64 h1,.int .i64 h2,.int .i64 h3,.int .i64 h4,.int .i64 h5,.int .i64 h6,.int .i64 h7,.int .i64 h8] 176))
 have K1:=zh (show CB W1 g made S T by rw[hW1];exact HB.out.alloc _);have H1:=zh (show ae W1 hb 176 #[.int .i64 h0,.int .i64 h1,.int .i64 h2,.int .i64 h3,.int .i64 h4,.int .i64 h5,.int .i64 h6,.int .i64 h7,.int .i64 h8] by rw[hW1,hhb];exact ae.new _ _ _);have BW1:=zh (show Below w.heap.size w W1 by rw[hW1];exact(Below.refl _ w).alloc ao _);rw[<-hW1,<-hhb];have HHB:=zh hhb;clear hW1 hhb;obtain⟨c0,c1,c2,c3,c4,c5,c6,c7,c8,c9,c10,c11,c12,c13⟩:=K1.out.cells hi HO.out;rw[<-HX.out]at c0 c1 c2 c3 c4 c5 c6 c7 c8 c9 c10 c11 c12 c13;obtain⟨q0,q1,q2,q3,q4,q5,q6,q7,q8⟩:=H1.out.nine;go_region_held3 (fun w'=>w'.cell? ⟨g,o,none⟩=some (.int .i64 x.hops)/\w'.cell? ⟨g,o+1,none⟩=some (.int .i64 x.ident)/\w'.cell? ⟨g,o+2,none⟩=some (.int .i64 x.time)/\w'.cell? ⟨hb,0,none⟩=some (.int .i64 h0)/\w'.cell? ⟨hb,1,none⟩=some (.int .i64 h1)/\w'.cell? ⟨hb,2,none⟩=some (.int .i64 h2)/\w'.cell? ⟨hb,3,none⟩=some (.int .i64 h3)/\w'.cell? ⟨hb,4,none⟩=some (.int .i64 h4)/\w'.cell? ⟨hb,5,none⟩=some (.int .i64 h5)/\w'.cell? ⟨hb,6,none⟩=some (.int .i64 h6)/\w'.cell? ⟨hb,7,none⟩=some (.int .i64 h7)/\w'.cell? ⟨hb,8,none⟩=some (.int .i64 h8)) (go_keep) ((go_at_call 134;refine(hA2.out _).mono ?_;rintro e w2 ⟨rfl,b2⟩;have K2:=zh (K1.out.drew.below b2 K1.out.lt);have H2:=zh (H1.out.drew.below b2 H1.out.lt);have B2:=zh (av BW1.out.drew b2);clear b2;obtain⟨d0,d1,d2,d3,d4,d5,d6,d7,d8,d9,d10,d11,d12,d13⟩:=K2.out.cells hi HO.out;obtain⟨r0,r1,r2,r3,r4,r5,r6,r7,r8⟩:=H2.out.nine;rw[<-HX.out]at d0 d1 d2 d3 d4 d5 d6 d7 d8 d9 d10 d11 d12 d13));have hgl:=K2.out.lt;have hbl:=H2.out.lt;have x3:∀e:ax w2,e.v.cell? ⟨g,o+3,none⟩=some (.bool x.used):=fun e=>e.cell d3 hgl;have x12:∀e:ax w2,e.v.cell? ⟨g,o+12,none⟩=some (.bool x.need):=fun e=>e.cell d12 hgl;have x4:∀e:ax w2,e.v.cell? ⟨g,o+4,none⟩=some (.int .i64 x.f0):=fun e=>e.cell d4 hgl;have x5:∀e:ax w2,e.v.cell? ⟨g,o+5,none⟩=some (.int .i64 x.f1):=fun e=>e.cell d5 hgl;have x6:∀e:ax w2,e.v.cell? ⟨g,o+6,none⟩=some (.int .i64 x.f2):=fun e=>e.cell d6 hgl;have x7:∀e:ax w2,e.v.cell? ⟨g,o+7,none⟩=some (.int .i64 x.f3):=fun e=>e.cell d7 hgl;have x8:∀e:ax w2,e.v.cell? ⟨g,o+8,none⟩=some (.int .i64 x.f4):=fun e=>e.cell d8 hgl;have y0:∀e:ax w2,e.v.cell? ⟨hb,0,none⟩=some (.int .i64 h0):=fun e=>e.cell r0 hbl;have y1:∀e:ax w2,e.v.cell? ⟨hb,1,none⟩=some (.int .i64 h1):=fun e=>e.cell r1 hbl;have y2:∀e:ax w2,e.v.cell? ⟨hb,2,none⟩=some (.int .i64 h2):=fun e=>e.cell r2 hbl;have y3:∀e:ax w2,e.v.cell? ⟨hb,3,none⟩=some (.int .i64 h3):=fun e=>e.cell r3 hbl;have y4:∀e:ax w2,e.v.cell? ⟨hb,4,none⟩=some (.int .i64 h4):=fun e=>e.cell r4 hbl;have y5:∀e:ax w2,e.v.cell? ⟨hb,5,none⟩=some (.int .i64 h5):=fun e=>e.cell r5 hbl;have y6:∀e:ax w2,e.v.cell? ⟨hb,6,none⟩=some (.int .i64 h6):=fun e=>e.cell r6 hbl;have y7:∀e:ax w2,e.v.cell? ⟨hb,7,none⟩=some (.int .i64 h7):=fun e=>e.cell r7 hbl;have y8:∀e:ax w2,e.v.cell? ⟨hb,8,none⟩=some (.int .i64 h8):=fun e=>e.cell r8 hbl;have BX:Hid (∀e:ax w2,Below w.heap.size w e.v):=zh fun e=>av B2.out e.h;obtain⟨u,hu⟩:=af x.used
 obtain⟨nd,hnd⟩:=af x.need
 rw[<-hu]at x3;rw[<-hnd]at x12;have HU:=zh hu;have HND:=zh hnd;clear hu hnd c0 c1 c2 c3 c4 c5 c6 c7 c8 c9 c10 c11 c12 c13 q0 q1 q2 q3 q4 q5 q6 q7 q8 d3 d12 d4 d5 d6 d7 d8;have hneq:=HNE.out;go_wp2
 cases u
 ·have hk0:k=0:=by rw[HK.out,HNK.out,<-HU.out];rfl
  subst hk0;refine aS (by kernel_rfl) (by kernel_rfl) ?_
  repeat (go_big_quiet_step (fail))
  refine wpQuiet_nil ?_;rintro _ ⟨ex,rfl⟩;go_wp2;go_ret
  exact⟨rfl,BX.out ex⟩
 cases nd
 rotate_left
 ·have hk0:k=0:=by rw[HK.out,HNK.out,<-HU.out,<-HND.out];rfl
  subst hk0;refine aS (by kernel_rfl) (by kernel_rfl) ?_
  repeat (go_big_quiet_step (fail))
  refine wpQuiet_nil ?_;rintro _ ⟨ex,rfl⟩;go_wp2;go_ret
  exact⟨rfl,BX.out ex⟩
 cases sf
 ·have hk0:k=0:=by rw[HK.out,HNK.out,<-HU.out,<-HND.out];rfl
  subst hk0;refine aS (by kernel_rfl) (by kernel_rfl) ?_
  repeat (go_big_quiet_step (exact Calls.ext_of (dJ h0 h1 h2 h3 h4 h5 h6 h7 h8 _)))
  refine wpQuiet_nil ?_;rintro _ ⟨ex,rfl⟩;go_wp2;go_ret
  exact⟨rfl,BX.out ex⟩
 by_cases hn1:n < 1
 ·have hk0:k=0:=by rw[HK.out,HNK.out,<-HU.out,<-HND.out];simp[hn1]
  subst hk0;refine aS (by kernel_rfl) (by kernel_rfl) ?_
  repeat (go_big_quiet_step (exact Calls.ext_of (dJ h0 h1 h2 h3 h4 h5 h6 h7 h8 _)))
  refine wpQuiet_nil ?_;rintro _ ⟨ex,rfl⟩;go_wp2;go_ret
  exact⟨rfl,BX.out ex⟩
 by_cases hn2:255 < n
 ·have hk0:k=0:=by rw[HK.out,HNK.out,<-HU.out,<-HND.out];simp[hn2]
  subst hk0;refine aS (by kernel_rfl) (by kernel_rfl) ?_
  repeat (go_big_quiet_step (exact Calls.ext_of (dJ h0 h1 h2 h3 h4 h5 h6 h7 h8 _)))
  refine wpQuiet_nil ?_;rintro _ ⟨ex,rfl⟩;go_wp2;go_ret
  exact⟨rfl,BX.out ex⟩
 refine aS (by kernel_rfl) (by kernel_rfl) ?_
 repeat (go_big_quiet_step (exact Calls.ext_of (dJ h0 h1 h2 h3 h4 h5 h6 h7 h8 _)))
 refine wpQuiet_nil ?_;rintro _ ⟨ex,rfl⟩;have hge:g < ex.v.heap.size:=bg hgl ex.h.size;have hbe:hb < ex.v.heap.size:=bg hbl ex.h.size;have z0:∀e:ax ex.v,e.v.cell? ⟨g,o,none⟩=some (.int .i64 x.hops):=fun e=>e.cell (ex.cell d0 hgl) hge;have z11:∀e:ax ex.v,e.v.cell? ⟨g,o+11,none⟩=some (.int .i64 x.step):=fun e=>e.cell (ex.cell d11 hgl) hge;have z5:∀e:ax ex.v,e.v.cell? ⟨hb,5,none⟩=some (.int .i64 h5):=fun e=>e.cell (y5 ex) hbe;have BZ:Hid (∀e:ax ex.v,Below w.heap.size w e.v):=zh fun e=>av (BX.out ex) e.h;have kw:=HKW.out;have kb:=HKB.out;have hnk0:nk=false:=by rw[HNK.out,<-HU.out,<-HND.out];simp[hn1,hn2]
 have HK2:=zh (by have:=HK.out;rw[hnk0]at this;exact this);clear x3 x12 x4 x5 x6 x7 x8 y0 y1 y2 y3 y4 y5 y6 y7 y8 hneq hnk0;go_wp2;by_cases hh:h5=x.hops
 focus
  have hh1:(h5 == x.hops)=true:=by simpa using hh
  by_cases htt:t=p % 16777216
  focus
   have ht1:(t == p % 16777216)=true:=by simpa using htt
   have hk2:k=2:=by rw[HK2.out,if_neg (by decide),if_pos ⟨hh,htt⟩]
   have HHH:=zh hh;have HTT:=zh htt;clear hh htt
  rotate_left
  focus
   have ht1:(t == p % 16777216)=false:=by simpa using htt
   have hk2:=HK2.out;rw[if_neg (by decide),if_neg (fun hc=>htt hc.2)]at hk2;have HHH:=zh hh;clear hh;by_cases h16:t < 65536
   focus
    rw[if_pos h16]at hk2
   rotate_left
   focus
    rw[if_neg h16]at hk2
 rotate_left 3
 focus
  have hh1:(h5 == x.hops)=false:=by simpa using hh
  have hk2:=HK2.out;rw[if_neg (by decide),if_neg (fun hc=>hh hc.1)]at hk2;by_cases h16:t < 65536
  focus
   rw[if_pos h16]at hk2
  rotate_left
  focus
   rw[if_neg h16]at hk2
 all_goals
  subst hk2;refine aS (by kernel_rfl) (by kernel_rfl) ?_
  repeat (go_big_quiet_step (fail))
  refine wpQuiet_nil ?_;rintro _ ⟨ex2,rfl⟩;go_wp2;go_ret
  exact⟨rfl,BZ.out ex2⟩
def xf (len:Nat) (y:Nat->Int) (g:Nat) (made:Bool) (S:Nat->Rx) (T:Int) (w:World) (e:Ending) (w':World):Prop:=
 ∃A c,e=.returned (.slice A len c)/\len<=c/\au w' w'.heap.size A len (fun j=>.int .u8 (y j))/\CB w' g made S T/\bI g w w'
theorem ay {g:Nat} {w w':World} (h:Below w.heap.size w w'):bI g w w':=⟨h.os,h.tape,h.output,h.size,fun i hi _=>h.block i hi⟩
theorem bI.trans {g:Nat} {a b c:World} (h:bI g a b) (k:bI g b c):bI g a c:=World.grownBy.trans h k
theorem tZ {g H n c:Nat} {w a b:World} (h:bI g w a) (k:a.grownBy b (Value.slice (some ⟨H,0,none⟩) n c).ownBlock) (hH:w.heap.size<=H):bI g w b:=
 ⟨k.os.trans h.os,k.tape.trans h.tape,k.output.trans h.output,ba h.size k.size,fun i hi hne=>(k.block i (bg hi h.size) (fun e=>by
  have:i=H:=by simpa[Value.ownBlock]using e
  omega)).trans (h.block i hi hne)⟩
theorem bI.blk {g b:Nat} {t:TypeId} {cs:Array Value} {w w':World} (h:bI g w w') (hB:ae w b t cs) (hne:b ≠ g):ae w' b t cs:=(h.block b hB.lt (fun e=>by cases e;exact hne rfl)).trans hB
theorem bI.row {g B n:Nat} {A:Option Addr} {v:Nat->Value} {w w':World} (h:bI g w w') (hr:au w B A n v) (hB:B<=w.heap.size) (hg:∀a,A=some a->a.block ≠ g):au w' B A n v:=fun hn=>by
 obtain⟨b,off,e,hb,hc⟩:=hr hn;subst e
 exact⟨b,off,rfl,hb,fun j hj=>(World.cell?_of_block (h.block b (by omega) (fun e=>by cases e;exact hg _ rfl rfl))).trans (hc j hj)⟩
theorem oZ (g i o:Nat) (made:Bool) (S:Nat->Rx) (T:Int) (h0 h1 h2 h3 h4 h5 h6 h7 h8:Int) (Z:Value) (hi:i < 16) (ho:o=1+14*i) (hok:(S i).Ok) (b6:0<=h6/\h6 < 65536) (b7:0<=h7/\h7 < 16777216) (hn1:1<=bP (S i) h6) (hn2:bP (S i) h6<=255) (w:World) (h:CB w g made S T) :
  Calls Tryz.prog 113 #[.pointer (some ⟨g,o,none⟩),.agg #[.int .i64 h0,.int .i64 h1,.int .i64 h2,.int .i64 h3,.int .i64 h4,.int .i64 h5,.int .i64 h6,.int .i64 h7,.int .i64 h8],Z] w (xf 2 (fun j=>([(S i).gen,bP (S i) h6]:List Int).getD j 0) g made S T w):=by
 obtain⟨x,hx⟩:=af (S i)
 rw[<-hx]at hok hn1 hn2 ⊢;obtain⟨oh,oi,ot,og,os⟩:=hok;have w1:IntKind.i64.wrap (h6-x.ident)=h6-x.ident:=IntWalk.i64_in _ (by omega);have w2:IntKind.i64.wrap (h7-x.time)=h7-x.time:=IntWalk.i64_in _ (by omega);have HA:=zh (fun W=>j8 x.hops x.ident x.time h0 h1 h2 h3 h4 h5 h6 h7 h8 W w1 w2);obtain⟨n,hn⟩:=af (bP x h6)
 obtain⟨t,ht⟩:=af (kT x h7)
 rw[<-hn]at hn1 hn2 ⊢;have hA2:Hid (∀W:World,Calls Tryz.prog 134 #[.agg #[.int .i64 x.hops,.int .i64 x.ident,.int .i64 x.time],.agg #[.int .i64 h0,.int .i64 h1,.int .i64 h2,.int .i64 h3,.int .i64 h4,.int .i64 h5,.int .i64 h6,.int .i64 h7,.int .i64 h8]] W fun e w'=>e=.returned (.tuple #[.int .i64 n,.int .i64 t])/\Below W.heap.size W w'):=by rw[hn,ht];exact HA
 have HX:=zh hx;have HO:=zh ho;have HB:=zh h;have HT:=zh ht;clear HA hx ho h w1 w2 hn ht;go_enter Tryz.func113,Tryz.ntmps113;go_wp2;obtain⟨hb,hhb⟩:=af w.heap.size
 obtain⟨W1,hW1⟩:=af (w.alloc (.cells #[.int .i64 h0,.int .i64 h1,.int .i64 h2,.int .i64 h3,.int .i64 h4,.int .i64 h5,.int .i64 h6,.int .i64 h7,.int .i64 h8] 176))
 have K1:=zh (show CB W1 g made S T by rw[hW1];exact HB.out.alloc _);have H1:=zh (show ae W1 hb 176 #[.int .i64 h0,.int .i64 h1,.int .i64 h2,.int .i64 h3,.int .i64 h4,.int .i64 h5,.int .i64 h6,.int .i64 h7,.int .i64 h8] by rw[hW1,hhb];exact ae.new _ _ _);have BW1:=zh (show Below w.heap.size w W1 by rw[hW1];exact(Below.refl _ w).alloc ao _);rw[<-hW1,<-hhb];have HHB:=zh hhb;have hgl:=K1.out.lt;have hbl:=H1.out.lt;have hgh:g < w.heap.size:=HB.out.lt;clear hW1 hhb;obtain⟨c0,c1,c2,c3,c4,c5,c6,c7,c8,c9,c10,c11,c12,c13⟩:=K1.out.cells hi HO.out;rw[<-HX.out]at c0 c1 c2;obtain⟨q0,q1,q2,q3,q4,q5,q6,q7,q8⟩:=H1.out.nine;have x0:∀e:ax W1,e.v.cell? ⟨g,o,none⟩=some (.int .i64 x.hops):=fun e=>e.cell c0 hgl;have x1:∀e:ax W1,e.v.cell? ⟨g,o+1,none⟩=some (.int .i64 x.ident):=fun e=>e.cell c1 hgl;have x2:∀e:ax W1,e.v.cell? ⟨g,o+2,none⟩=some (.int .i64 x.time):=fun e=>e.cell c2 hgl;have y0:∀e:ax W1,e.v.cell? ⟨hb,0,none⟩=some (.int .i64 h0):=fun e=>e.cell q0 hbl;have y1:∀e:ax W1,e.v.cell? ⟨hb,1,none⟩=some (.int .i64 h1):=fun e=>e.cell q1 hbl;have y2:∀e:ax W1,e.v.cell? ⟨hb,2,none⟩=some (.int .i64 h2):=fun e=>e.cell q2 hbl;have y3:∀e:ax W1,e.v.cell? ⟨hb,3,none⟩=some (.int .i64 h3):=fun e=>e.cell q3 hbl;have y4:∀e:ax W1,e.v.cell? ⟨hb,4,none⟩=some (.int .i64 h4):=fun e=>e.cell q4 hbl;have y5:∀e:ax W1,e.v.cell? ⟨hb,5,none⟩=some (.int .i64 h5):=fun e=>e.cell q5 hbl;have y6:∀e:ax W1,e.v.cell? ⟨hb,6,none⟩=some (.int .i64 h6):=fun e=>e.cell q6 hbl;have y7:∀e:ax W1,e.v.cell? ⟨hb,7,none⟩=some (.int .i64 h7):=fun e=>e.cell q7 hbl;have y8:∀e:ax W1,e.v.cell? ⟨hb,8,none⟩=some (.int .i64 h8):=fun e=>e.cell q8 hbl;clear c0 c1 c2 c3 c4 c5 c6 c7 c8 c9 c10 c11 c12 c13 q0 q1 q2 q3 q4 q5 q6 q7 q8;refine aS (by kernel_rfl) (by kernel_rfl) ?_
 repeat (go_big_quiet_step (exact Calls.ext_of (hA2.out _)))
 refine wpQuiet_nil ?_;rintro _ ⟨ex,rfl⟩;have K2:=zh (K1.out.below ex.h hgl);obtain⟨d0,d1,d2,d3,d4,d5,d6,d7,d8,d9,d10,d11,d12,d13⟩:=K2.out.cells hi HO.out;rw[<-HX.out]at d10;clear d0 d1 d2 d3 d4 d5 d6 d7 d8 d9 d11 d12 d13 x0 x1 x2 y0 y1 y2 y3 y4 y5 y6 y7 y8;have B2:=zh (av BW1.out ex.h);go_wp2;go_ret
 exact⟨_,_,rfl,Nat.le_refl _,bZ [x.gen,n] (ae.new ex.v 5 #[.int .u8 x.gen,.int .u8 n]) (by simp),K2.out.alloc _,ay (dG B2.out _)⟩
theorem uD (g i o:Nat) (made:Bool) (S:Nat->Rx) (T:Int) (h0 h1 h2 h3 h4 h5 h6 h7 h8:Int) (Z:Value) (hi:i < 16) (ho:o=1+14*i) (hok:(S i).Ok) (b5:0<=h5/\h5 < 256) (b6:0<=h6/\h6 < 65536) (b7:0<=h7/\h7 < 16777216) (hn1:1<=bP (S i) h6) (hn2:bP (S i) h6<=255) (ht1:kT (S i) h7 < 65536) (w:World) (h:CB w g made S T) :
  Calls Tryz.prog 112 #[.pointer (some ⟨g,o,none⟩),.agg #[.int .i64 h0,.int .i64 h1,.int .i64 h2,.int .i64 h3,.int .i64 h4,.int .i64 h5,.int .i64 h6,.int .i64 h7,.int .i64 h8],Z] w (xf 5 (fun j=>([(dD (S i) h5 h6 h7 (kT (S i) h7 / bP (S i) h6)).gen,bP (S i) h6,kT (S i) h7 / 256,kT (S i) h7 % 256,h5]:List Int).getD j 0) g made (an S i (dD (S i) h5 h6 h7 (kT (S i) h7 / bP (S i) h6))) T w):=by
 obtain⟨x,hx⟩:=af (S i)
 rw[<-hx]at hok hn1 hn2 ht1 ⊢;obtain⟨oh,oi,ot,og,os⟩:=hok;have w1:IntKind.i64.wrap (h6-x.ident)=h6-x.ident:=IntWalk.i64_in _ (by omega);have w2:IntKind.i64.wrap (h7-x.time)=h7-x.time:=IntWalk.i64_in _ (by omega);have HA:=zh (fun W=>j8 x.hops x.ident x.time h0 h1 h2 h3 h4 h5 h6 h7 h8 W w1 w2);obtain⟨n,hn⟩:=af (bP x h6)
 obtain⟨t,ht⟩:=af (kT x h7)
 have ht0:0<=kT x h7:=by unfold kT;omega
 rw[<-hn]at hn1 hn2 ⊢;rw[<-ht]at ht0 ht1 ⊢;have hA2:Hid (∀W:World,Calls Tryz.prog 134 #[.agg #[.int .i64 x.hops,.int .i64 x.ident,.int .i64 x.time],.agg #[.int .i64 h0,.int .i64 h1,.int .i64 h2,.int .i64 h3,.int .i64 h4,.int .i64 h5,.int .i64 h6,.int .i64 h7,.int .i64 h8]] W fun e w'=>e=.returned (.tuple #[.int .i64 n,.int .i64 t])/\Below W.heap.size W w'):=by rw[hn,ht];exact HA
 have HX:=zh hx;have HO:=zh ho;have HB:=zh h;have HT:=zh ht;have kq:t.tdiv n=t / n:=Int.tdiv_eq_ediv_of_nonneg ht0;have kq0:0<=t / n:=Int.ediv_nonneg ht0 (by omega);have kq1:t / n<=t:=Int.ediv_le_self _ ht0;have kq2:IntKind.i64.wrap (t / n)=t / n:=IntWalk.i64_in _ (by omega);have kq3:(n == 0)=false:=by simp;omega
 have kq4:¬n=0:=by omega
 obtain⟨q,hq⟩:=af (t / n)
 rw[<-hq]at kq kq0 kq1 kq2 ⊢;have HQ:=zh hq;have KQ:=zh kq;have KQ2:=zh kq2;have KQ3:=zh kq3;have HBG:=zh (fun W hC=>nO g i o made S T h0 h1 h2 h3 h4 h5 h6 h7 h8 q hi ho W hC);rw[<-hx]at HBG;obtain⟨x',hx'⟩:=af (dD x h5 h6 h7 q)
 rw[<-hx']at HBG ⊢;clear HA hx ho h w1 w2 hn ht hq kq kq2 kq3 hx';go_enter Tryz.func112,Tryz.ntmps112;go_wp2;obtain⟨hb,hhb⟩:=af w.heap.size
 obtain⟨W1,hW1⟩:=af (w.alloc (.cells #[.int .i64 h0,.int .i64 h1,.int .i64 h2,.int .i64 h3,.int .i64 h4,.int .i64 h5,.int .i64 h6,.int .i64 h7,.int .i64 h8] 176))
 have K1:=zh (show CB W1 g made S T by rw[hW1];exact HB.out.alloc _);have H1:=zh (show ae W1 hb 176 #[.int .i64 h0,.int .i64 h1,.int .i64 h2,.int .i64 h3,.int .i64 h4,.int .i64 h5,.int .i64 h6,.int .i64 h7,.int .i64 h8] by rw[hW1,hhb];exact ae.new _ _ _);have BW1:=zh (show Below w.heap.size w W1 by rw[hW1];exact(Below.refl _ w).alloc ao _);rw[<-hW1,<-hhb];have HHB:=zh hhb;have hgl:=K1.out.lt;have hbl:=H1.out.lt;have hgh:g < w.heap.size:=HB.out.lt;clear hW1 hhb;obtain⟨c0,c1,c2,c3,c4,c5,c6,c7,c8,c9,c10,c11,c12,c13⟩:=K1.out.cells hi HO.out;rw[<-HX.out]at c0 c1 c2;obtain⟨q0,q1,q2,q3,q4,q5,q6,q7,q8⟩:=H1.out.nine;have x0:∀e:ax W1,e.v.cell? ⟨g,o,none⟩=some (.int .i64 x.hops):=fun e=>e.cell c0 hgl;have x1:∀e:ax W1,e.v.cell? ⟨g,o+1,none⟩=some (.int .i64 x.ident):=fun e=>e.cell c1 hgl;have x2:∀e:ax W1,e.v.cell? ⟨g,o+2,none⟩=some (.int .i64 x.time):=fun e=>e.cell c2 hgl;have y0:∀e:ax W1,e.v.cell? ⟨hb,0,none⟩=some (.int .i64 h0):=fun e=>e.cell q0 hbl;have y1:∀e:ax W1,e.v.cell? ⟨hb,1,none⟩=some (.int .i64 h1):=fun e=>e.cell q1 hbl;have y2:∀e:ax W1,e.v.cell? ⟨hb,2,none⟩=some (.int .i64 h2):=fun e=>e.cell q2 hbl;have y3:∀e:ax W1,e.v.cell? ⟨hb,3,none⟩=some (.int .i64 h3):=fun e=>e.cell q3 hbl;have y4:∀e:ax W1,e.v.cell? ⟨hb,4,none⟩=some (.int .i64 h4):=fun e=>e.cell q4 hbl;have y5:∀e:ax W1,e.v.cell? ⟨hb,5,none⟩=some (.int .i64 h5):=fun e=>e.cell q5 hbl;have y6:∀e:ax W1,e.v.cell? ⟨hb,6,none⟩=some (.int .i64 h6):=fun e=>e.cell q6 hbl;have y7:∀e:ax W1,e.v.cell? ⟨hb,7,none⟩=some (.int .i64 h7):=fun e=>e.cell q7 hbl;have y8:∀e:ax W1,e.v.cell? ⟨hb,8,none⟩=some (.int .i64 h8):=fun e=>e.cell q8 hbl;clear c0 c1 c2 c3 c4 c5 c6 c7 c8 c9 c10 c11 c12 c13 q0 q1 q2 q3 q4 q5 q6 q7 q8;refine aS (by kernel_rfl) (by kernel_rfl) ?_
 repeat (go_big_quiet_step (exact Calls.ext_of (hA2.out _)))
 refine wpQuiet_nil ?_;rintro _ ⟨ex,rfl⟩;obtain⟨W2,hW2⟩:=af ex.v
 have hbx:=ex.h;rw[<-hW2]at hbx ⊢;have K2:=zh (K1.out.below hbx hgl);have H2:=zh (H1.out.below hbx hbl);have B2:=zh (av BW1.out hbx);have hne1:hb ≠ g:=by have:=HHB.out;omega
 clear hW2 hbx ex x0 x1 x2 y0 y1 y2 y3 y4 y5 y6 y7 y8;obtain⟨r0,r1,r2,r3,r4,r5,r6,r7,r8⟩:=H2.out.nine;have kq:=KQ.out;have kq2:=KQ2.out;have kq3:=KQ3.out;go_wp2;go_region_held3 (fun w'=>w'.cell? ⟨hb,0,none⟩=some (.int .i64 h0)/\w'.cell? ⟨hb,1,none⟩=some (.int .i64 h1)/\w'.cell? ⟨hb,2,none⟩=some (.int .i64 h2)/\w'.cell? ⟨hb,3,none⟩=some (.int .i64 h3)/\w'.cell? ⟨hb,4,none⟩=some (.int .i64 h4)/\w'.cell? ⟨hb,5,none⟩=some (.int .i64 h5)/\w'.cell? ⟨hb,6,none⟩=some (.int .i64 h6)/\w'.cell? ⟨hb,7,none⟩=some (.int .i64 h7)/\w'.cell? ⟨hb,8,none⟩=some (.int .i64 h8)) (go_keep) ((go_at_call 135;refine(HBG.out _ K2.out.drew).mono ?_;rintro e w3 ⟨rfl,k3,e3⟩;have K3:=zh k3;have E3:=zh ((ay B2.out.drew).trans e3);have H3:=zh (e3.blk H2.out.drew hne1);clear k3 e3;obtain⟨s0,s1,s2,s3,s4,s5,s6,s7,s8⟩:=H3.out.nine));clear kq kq2 kq3 r0 r1 r2 r3 r4 r5 r6 r7 r8;obtain⟨d0,d1,d2,d3,d4,d5,d6,d7,d8,d9,d10,d11,d12,d13⟩:=K3.out.cellsU hi HO.out;clear d0 d1 d2 d3 d4 d5 d6 d7 d8 d9 d11 d12 d13 s0 s1 s2 s3 s4 s6 s7 s8;have v1:IntKind.u8.wrap n=n:=by rw[IntKind.wrap_u8];omega
 have v2:IntKind.u8.wrap (t / 256)=t / 256:=by rw[IntKind.wrap_u8];omega
 have v3:IntKind.u8.wrap t=t % 256:=by rw[IntKind.wrap_u8]
 have v4:IntKind.u8.wrap h5=h5:=by rw[IntKind.wrap_u8];omega
 go_wp2;refine wp_region_still_tail 14 (by kernel_rfl) (by kernel_rfl) ?_;simp only[List.take_succ_cons,List.take_zero,List.drop_succ_cons,List.drop_zero];change wpStill _ _ w3.drew (fun a'=>wpList _ _ _ _ a' w3.drew) _ _;obtain⟨WD,hWD⟩:=af w3.drew
 have t10:WD.cell? ⟨g,o+10,none⟩=some (.int .u8 x'.gen):=by rw[hWD];exact d10
 have t5:WD.cell? ⟨hb,5,none⟩=some (.int .i64 h5):=by rw[hWD];exact s5
 have KD:=zh (show CB WD g made (an S i x') T by rw[hWD];exact K3.out);have ED:=zh (show bI g w WD by rw[hWD];exact ca E3.out);rw[<-hWD];clear hWD d10 s5
 repeat still_step
 refine wpStill_nil ?_;go_wp2;go_ret
 exact⟨_,_,rfl,Nat.le_refl _,bZ [x'.gen,n,t / 256,t % 256,h5] (ae.new WD 5 #[.int .u8 x'.gen,.int .u8 n,.int .u8 (t / 256),.int .u8 (t % 256),.int .u8 h5]) (by simp),KD.out.alloc _,ED.out.trans (World.grownBy_alloc _ _ _)⟩
def fq (c:Rx) (h0 h1 h2 h3 h4 h5 h6 h7:Int):Rx:={ dD c h5 h6 h7 0 with used:=true,f0:=h0,f1:=h1,f2:=h2,f3:=h3,f4:=h4,need:=false }
theorem vf (lb lo n c:Nat) (h18:18<=c):∀w,(Instr.slice 44 (.slice (some ⟨lb,lo,none⟩) n c) none (some (.int .i64 18)) (some (.int .i64 18))).run Tryz.prog w=.ok (.slice (some ⟨lb,lo,none⟩) 18 18) w:=fun w=>by
 have hm0:(18:Int)<=(c:Int):=by omega
 simp[go_sem,hm0]
theorem nF (x:Value) (v:Nat->Value) (m:Nat):∀j,j < 1+m->([x]++(List.range m).map v)[j]? = some (if j=0 then x else v (j-1)):=by
 intro j hj;by_cases h0:j=0
 ·subst h0;rfl
 ·rw[if_neg h0,List.getElem?_append_right (by simp;omega)];have:j-1 < m:=by omega
  simp[this]
theorem uZ (g i o:Nat) (made:Bool) (S:Nat->Rx) (T:Int) (h0 h1 h2 h3 h4 h5 h6 h7 h8:Int) (lb lo nz c:Nat) (z:Nat->Int) (hi:i < 16) (ho:o=1+14*i) (h18:18<=nz) (hnc:nz<=c) (w:World) (h:CB w g made S T) (hr:au w w.heap.size (some ⟨lb,lo,none⟩) nz (fun j=>.int .u8 (z j))) (hlg:lb ≠ g) :
  Calls Tryz.prog 111 #[.pointer (some ⟨g,o,none⟩),.agg #[.int .i64 h0,.int .i64 h1,.int .i64 h2,.int .i64 h3,.int .i64 h4,.int .i64 h5,.int .i64 h6,.int .i64 h7,.int .i64 h8],.slice (some ⟨lb,lo,none⟩) nz c] w (xf 19 (fun j=>if j=0 then (fq (S i) h0 h1 h2 h3 h4 h5 h6 h7).gen else z (j-1)) g made (an S i (fq (S i) h0 h1 h2 h3 h4 h5 h6 h7)) T w):=by
 obtain⟨i0,hi0,hz0,hz1,hz2⟩:=info_parts Tryz.infoByte;have HBG:=zh (fun W hC=>nO g i o made S T h0 h1 h2 h3 h4 h5 h6 h7 h8 0 hi ho W hC);have HFU:=zh (show fq (S i) h0 h1 h2 h3 h4 h5 h6 h7={ dD (S i) h5 h6 h7 0 with used:=true,f0:=h0,f1:=h1,f2:=h2,f3:=h3,f4:=h4,need:=false } from rfl);obtain⟨x',hx'⟩:=af (dD (S i) h5 h6 h7 0)
 obtain⟨y',hy'⟩:=af (fq (S i) h0 h1 h2 h3 h4 h5 h6 h7)
 rw[<-hx']at HBG HFU;rw[<-hy']at HFU ⊢;have hsl:=vf lb lo nz c (by omega);have HO:=zh ho;have HB:=zh h;have HR:=zh hr;clear ho h hr hx' hy';go_enter Tryz.func111,Tryz.ntmps111;go_wp2_with (first
  | (go_at_call 135;refine(HBG.out _ (HB.out.alloc _)).mono ?_;rintro e w2 ⟨rfl,k2,e2⟩;have K2:=zh k2;have E2:=zh ((ay ((Below.refl _ w).alloc ao _)).trans e2);have hne:w.heap.size ≠ g:=(by have:=HB.out.lt;omega);have H2:=zh (e2.blk (ae.new w 176 #[.int .i64 h0,.int .i64 h1,.int .i64 h2,.int .i64 h3,.int .i64 h4,.int .i64 h5,.int .i64 h6,.int .i64 h7,.int .i64 h8]) hne);clear k2 e2;obtain⟨q0,q1,q2,q3,q4,q5,q6,q7,q8⟩:=H2.out.nine)
  | (go_at_call 109;refine(dJ h0 h1 h2 h3 h4 h5 h6 h7 h8 _).mono ?_;rintro e w3 ⟨rfl,b3⟩;have K3:=zh (K2.out.below b3 K2.out.lt);have E3:=zh (E2.out.trans (ay b3));clear b3;obtain⟨d0,d1,d2,d3,d4,d5,d6,d7,d8,d9,d10,d11,d12,d13⟩:=K3.out.cellsU hi HO.out;have z3:=K3.out.fr (o+3);have z4:=K3.out.fr (o+4);have z5:=K3.out.fr (o+5);have z6:=K3.out.fr (o+6);have z7:=K3.out.fr (o+7);have z8:=K3.out.fr (o+8);have z12:=K3.out.fr (o+12)))
 have hlt3:=K3.out.lt;obtain⟨W4,hW4⟩:=af (((((((w3.setCell ⟨g,o+3,none⟩ (.bool true)).setCell ⟨g,o+4,none⟩ (.int .i64 h0)).setCell ⟨g,o+4+1,none⟩ (.int .i64 h1)).setCell ⟨g,o+4+2,none⟩ (.int .i64 h2)).setCell ⟨g,o+4+3,none⟩ (.int .i64 h3)).setCell ⟨g,o+4+4,none⟩ (.int .i64 h4)).setCell ⟨g,o+12,none⟩ (.bool false))
 have K4:=zh (show CB W4 g made (an S i y') T by rw[hW4];exact yv ((((((((K3.out.used_ hi HO.out true).f0_ hi HO.out h0).f1_ hi HO.out h1).f2_ hi HO.out h2).f3_ hi HO.out h3).f4_ hi HO.out h4).need_ hi HO.out false)) HFU.out.symm);have E4:=zh (show bI g w W4 by rw[hW4];exact aQ (aQ (aQ (aQ (aQ (aQ (aQ E3.out _ _) _ _) _ _) _ _) _ _) _ _) _ _);rw[<-hW4];clear hW4 d0 d1 d2 d3 d4 d5 d6 d7 d8 d9 d10 d11 d12 d13 z3 z4 z5 z6 z7 z8 z12 q0 q1 q2 q3 q4 q5 q6 q7 q8;have R4:=zh ((E4.out.row HR.out ao (fun a e=>by cases e;exact hlg)).take h18 |>.more E4.out.size);obtain⟨d0,d1,d2,d3,d4,d5,d6,d7,d8,d9,d10,d11,d12,d13⟩:=K4.out.cellsU hi HO.out;have hg4:=K4.out.lt;go_region_held3 (fun w'=>w'.cell? ⟨g,o+10,none⟩=some (.int .u8 y'.gen)) (go_keep) ((refine step_append_lies _ (by rfl) _ _ 44 (by rfl) W4.heap.size 5 i0 (.int .u8 0) 1 1 Tryz.underlying44 hi0 hz0 hz1 hz2 rfl (by decide) _ 1 [.int .u8 y'.gen] (by rfl) (World.ownsRow_lit (base:=W4.heap.size) W4 #[.int .u8 y'.gen] 1 ao (by decide) rfl).drew ⟨lb,lo,none⟩ 18 18 ((List.range 18).map (fun j=>.int .u8 (z j))) (by rfl) (by simp) (lP (R4.out.alloc ao _).drew rfl) (by simp;intro a _;rfl) (by decide) (by decide) (by decide) (by simp) _ rfl ?_;intro g6 c6 w6 hown6 hg6 hat6 hlt6;have K6:=zh (show CB w6 g made (an S i y') T from ae.grown (ae.drew (ae.alloc K4.out _)) hg6 (by simp[Value.ownBlock];omega));have p10:=(K6.out.cellsU hi HO.out).2.2.2.2.2.2.2.2.2.2.1;have HO6:=zh hown6;have HG6:=zh hg6;clear hown6 hg6));go_wp2;go_ret;obtain⟨A,cap,hv,hc,_,_,hr6⟩:=dn (f:=fun j=>if j=0 then .int .u8 y'.gen else .int .u8 (z (j-1))) HO6.out (nF _ _ _)
 cases hv
 refine⟨_,_,rfl,hc,hr6.congr (fun j hj=>?_),K6.out,?_⟩
 ·by_cases h0:j=0
  ·simp[h0]
  ·simp[h0]
 ·exact tZ (ca (E4.out.trans (World.grownBy_alloc _ _ _))) HG6.out (by have:=E4.out.size;simp;omega)
end Go.Proofs.YtiiojpnckbglcaaGreat
