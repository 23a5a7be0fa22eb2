import Derived.Test.YtiiojpnckbglcaaGreatVAs
import Derived.Test.YtiiojpnckbglcaaGreatTAs
import Derived.RangeFuncWrites
import Derived.OrdersHeld
import Derived.OrdersIn
import Derived.RangeFuncCalls
set_option linter.unusedVariables false
set_option linter.unusedSimpArgs false
namespace Go.Proofs.YtiiojpnckbglcaaGreat
open Go
def cI (v j:Nat):Nat:=v / 2 ^ (56-8*j) % 256
theorem kH (v j:Nat):cI v j < 256:=Nat.mod_lt _ (by decide)
def oF (ct b d:Nat):Nat:=ct*2 ^ 32+b*2 ^ 27+d*2 ^ 26
theorem xA {ct b d:Nat} (hc:ct < 4294967296) (hb:b < 32) (hd:d < 2):oF ct b d < 18446744073709551616:=by unfold oF;omega
def ju (ct b d i:Nat):Nat->Nat:=fun j=>if j < 8 then cI (oF ct b d) j else cI i (j-8)
theorem qW (ct b d i:Nat):br (ju ct b d i):=fun j _=>by
 unfold ju
 split<;>exact kH _ _
def uA (key:Nat->Nat) (ct b d:Nat):Nat->Nat:=fun j=>gn key (ju ct b d (j / 16)) (j % 16)
theorem tD {key:Nat->Nat} (hk:br key) (ct b d j:Nat):uA key ct b d j < 256:=iF hk (qW _ _ _ _) _ (Nat.mod_lt _ (by decide))
def jK (key:Nat->Nat) (ct b d:Nat) (z:Nat->Nat):Nat->Nat:=fun j=>z j ^^^ uA key ct b d j
def ix (b:Nat->Nat):Nat->Nat:=fun i=>if i < 15 then (b i*2 % 256) ||| (b (i+1) / 128) else (b i*2 % 256) ^^^ (b 0 / 128*135 % 256)
theorem qQ {b:Nat->Nat} (h:br b):br (ix b):=fun i hi=>by
 unfold ix
 split
 ·exact Nat.or_lt_two_pow (n:=8) (Nat.mod_lt _ (by decide)) (by have:=h (i+1) (by omega);omega)
 ·exact be (Nat.mod_lt _ (by decide)) (Nat.mod_lt _ (by decide))
def zB:Nat->Nat:=fun _=>0
theorem mZ:br zB:=fun _ _=>by show 0 < 256;decide
def eN (key:Nat->Nat):Nat->Nat:=ix (gn key zB)
def gv (key:Nat->Nat):Nat->Nat:=ix (eN key)
theorem jC {key:Nat->Nat} (hk:br key):br (eN key):=qQ (iF hk mZ)
theorem qY {key:Nat->Nat} (hk:br key):br (gv key):=qQ (jC hk)
def cH (z:Nat->Nat) (n q:Nat):Nat->Nat:=fun j=>if 16*q+j < n then z (16*q+j) else 0
theorem dQ {z:Nat->Nat} {n:Nat} (hz:∀j,j < n->z j < 256) (q:Nat):br (cH z n q):=fun j _=>by
 unfold cH
 split
 ·exact hz _ (by assumption)
 ·decide
def ce (a b:Nat->Nat):Nat->Nat:=fun i=>a i ^^^ b i
theorem fL {a b:Nat->Nat} (ha:br a) (hb:br b):br (ce a b):=fun j hj=>be (ha j hj) (hb j hj)
def bS (key:Nat->Nat) (b:Nat->Nat) (r:Nat):Nat->Nat:=if r=16 then ce b (eN key) else ce (eA b r 128) (gv key)
theorem ng {b:Nat->Nat} {i v:Nat} (hb:br b) (hv:v < 256):br (eA b i v):=fun j hj=>by
 unfold eA
 split
 ·exact hv
 ·exact hb j hj
theorem jI {key b:Nat->Nat} {r:Nat} (hk:br key) (hb:br b):br (bS key b r):=by
 unfold bS
 split
 ·exact fL hb (jC hk)
 ·exact fL (ng hb (by decide)) (qY hk)
def uP (key z:Nat->Nat) (n q:Nat):Nat->Nat:=if n<=16*q+16 then bS key (cH z n q) (n-16*q) else cH z n q
theorem wh {key z:Nat->Nat} {n:Nat} (hk:br key) (hz:∀j,j < n->z j < 256) (q:Nat):br (uP key z n q):=by
 unfold uP
 split
 ·exact jI hk (dQ hz q)
 ·exact dQ hz q
def pF (key z:Nat->Nat) (n:Nat):Nat->Nat->Nat
 | 0=>zB
 | q+1=>gn key (ce (pF key z n q) (uP key z n q))
theorem qU {key z:Nat->Nat} {n:Nat} (hk:br key) (hz:∀j,j < n->z j < 256):∀q,br (pF key z n q)
 | 0=>mZ
 | q+1=>iF hk (fL (qU hk hz q) (wh hk hz q))
def fD (n:Nat):Nat:=if n=0 then 1 else (n+15) / 16
def fT (key z:Nat->Nat) (n:Nat):Nat->Nat:=pF key z n (fD n)
theorem qy {key z:Nat->Nat} {n:Nat} (hk:br key) (hz:∀j,j < n->z j < 256):br (fT key z n):=qU hk hz _
def cD (a:Nat->Nat) (n:Nat) (b:Nat->Nat):Nat->Nat:=fun j=>if j < n then a j else b (j-n)
def iy (key:Nat->Nat) (ct b d:Nat) (z:Nat->Nat) (n:Nat):Nat:=
 let s:=fT key (cD (cI (oF ct b d)) 8 z) (8+n)
 s 0*16777216+s 1*65536+s 2*256+s 3
theorem ge {a b:Nat->Nat} {n m:Nat} (ha:∀j,j < n->a j < 256) (hb:∀j,j < m->b j < 256):∀j,j < n+m->cD a n b j < 256:=fun j hj=>by
 unfold cD
 split
 ·exact ha j (by assumption)
 ·exact hb _ (by omega)
theorem nZ {key:Nat->Nat} (ct b d:Nat) {z:Nat->Nat} {n:Nat} (hk:br key) (hz:∀j,j < n->z j < 256):iy key ct b d z n < 4294967296:=by
 have h:=qy (n:=8+n) hk (ge (fun j _=>kH (oF ct b d) j) hz);have h0:=h 0 (by decide);have h1:=h 1 (by decide);have h2:=h 2 (by decide);have h3:=h 3 (by decide);unfold iy;simp only;omega
end Go.Proofs.YtiiojpnckbglcaaGreat
namespace Go.Proofs.YtiiojpnckbglcaaGreat
open Go.RowKit
def qJ {α:Type} (F:Fence) (n:Nat) (P:Program) (g:Nat) (lb:Array Value) (encs:α->Array Value) (Kp:World->World->Prop) (Sp:List α->Prop) (NB:Nat) (w:World):Prop:=
 ∀(N l:Nat) (J Jx:List α->World->Prop) (W:World),N<=NB->Below w.heap.size w W->AbidesFrom W.heap.size J->AbidesFrom W.heap.size Jx->(∀pre W1,J pre W1->pre.length < N)->
  (∀pre x W1,J pre W1->YieldAt F (n-1) P l (encs x) W1 fun e W'=>
   (e=.returned (.bool true)/\J (pre++[x]) W'/\Kp W1 W')\/(e=.returned (.bool false)/\Jx (pre++[x]) W'))->
  J [] W->
  CallsIn F n P g (#[.func (.yield l) #[] #[]]++lb) W fun e W'=>(∃v,e=.returned v)/\∃pre,Sp pre/\Jx pre W'
theorem gw {F:Fence} {n:Nat} {P:Program} {α:Type} {g:Operand} {ps:Array Tmp} {assign body:Code} {Q:Exit->Act->World->Prop} {a:Act} {w:World}
  (hro:F.round=none) (h1:1<=n) {gf:Nat} {lb:Array Value} (hg:a.eval g=.func (.func gf) #[] lb) (hFg:F.fn gf) (eg:∀args w,(callFunc gf args).run P w=.ok (.enter gf args) w)
  {encs:α->Array Value} {Kp:World->World->Prop} {Sp:List α->Prop} {NB:Nat} {w0:World} (hseq:qJ F (n-1) P gf lb encs Kp Sp NB w0)
  (hKt:∀{A B C:World},Kp A B->Kp B C->Kp A C) (hKb:∀(W:World) (l:Nat) (o o':Obj),w.heap.size<=l->W.heap[l]? = some o->o.isCells=false->o.isWalk=false->Kp W (W.putObj l o')) (hb0:Below w0.heap.size w0 w) (hps:∀x,(encs x).size=ps.size)
  (N:Nat) (hNB:N<=NB) (I:List α->World->Prop) (Ix:Code->List α->World->Prop) (hI:OwnFrom w.heap.size I) (hIx:∀c,OwnFrom w.heap.size (Ix c)) (hN:∀pre W,I pre W->pre.length < N) (h0:I [] w) (a₁:α->Act)
  (hassign:∀(l:Nat) (x:α) (W:World) (K:Act->World->Prop),K (a₁ x) W->
   assign.wpIn (F.inRound l) (n-1-1) P (Exit.then K (fun _ _ _=>False)) { tmps:=(ps.zip (encs x)).foldl (fun t (p,v)=>t.setIfInBounds p v) a.tmps,defers:=[] } W)
  (hbody:∀(l:Nat) (pre:List α) (x:α) (W:World),I pre W->body.wpIn (F.inRound l) (n-1-1) P (ownPostG w.heap.size Kp I Ix (pre++[x]) W) (a₁ x) W)
  (hstop:∀(D:Nat) (c:Code) (pre:List α) (W:World),w.heap.size<=D->Sp pre->Ix c pre W->W.heap[D]? = some (.deferred (some []))->c.wpIn F n P Q { a with defers:={ target:=.collected D,args:=#[] } :: a.defers } W) :
  (Code.rangeFunc g ps assign body).wpIn F n P Q a w:=by
 refine wpIn_rangeFunc fun fn hfn=>?_;rw[hro];obtain⟨rec,hrec⟩:∃rec:LoopState->Option Code->Loop,rec=fun st pe=>{ state:=st,pending:=pe,fn,tmps:=a.tmps,params:=ps,assign,body,defers:=w.heap.size }:=⟨_,rfl⟩
 obtain⟨r,hr0⟩:=af (w.heap.size+1)
 obtain⟨W1,hW1⟩:∃W1,(w.alloc (.deferred (some []))).alloc (.loop (rec .ready none))=W1:=⟨_,rfl⟩
 have hL1:W1.heap[r]? = some (.loop (rec .ready none)):=by
  rw[<-hW1,hr0];have:=World.alloc_heap_new (w.alloc (.deferred (some []))) (.loop (rec .ready none))
  rwa [World.size_alloc]at this
 have hK1:W1.heap[w.heap.size]? = some (.deferred (some [])):=by
  rw[<-hW1]
  exact(Below.heap_alloc _ _ _ (by simp)).trans (World.alloc_heap_new w _)
 have hs1:w.heap.size+2=W1.heap.size:=by rw[<-hW1];simp
 have hI1:I [] W1:=by rw[<-hW1];exact hI.alloc _ (hI.alloc _ h0)
 have hb1:Below w0.heap.size w0 W1:=by
  rw[<-hW1]
  exact hb0.trans ((((Below.refl _ w).alloc ao _).alloc (by simp) _).mono hb0.size)
 have steps:∀{A B:World} {row:Option Nat},(∀k,row=some k->W1.heap.size<=k/\∃o:Obj,A.heap[k]? = some o/\o.isWalk=true)->(∀k,row=some k->w.heap.size<=k/\∃o:Obj,A.heap[k]? = some o/\o.isCells=false):=fun h k e=>by
  obtain⟨hge,o,ho,hw⟩:=h k e
  exact⟨by omega,o,ho,Obj.not_cells_of_walk hw⟩
 refine⟨r,[{ target:=.collected w.heap.size,args:=#[] }],W1,{ target:=.fn (.func gf) lb,args:=#[.func (.yield r) #[] #[]] },W1,gf,#[.func (.yield r) #[] #[]]++lb,W1,?_,?_,?_,?_,fun _=>h1,?_⟩
 ·rw[<-hW1,hrec,hr0];exact run_enterLoop_outer _ _ _ _ _
 ·simp only[resolve,hg];simp[go_sem]
 ·intro f' hf';simp[Target.leads]at hf';subst hf'
  exact hFg
 ·simp[invoke,go_sem,eg]
 ·refine(hseq N r (fun pre W=>I pre W/\W.heap[r]? = some (.loop (rec .ready none))/\W.heap[w.heap.size]? = some (.deferred (some [])))
   (fun pre W=>∃c,Ix c pre W/\W.heap[r]? = some (.loop (rec .done (some c)))/\W.heap[w.heap.size]? = some (.deferred (some []))) W1 hNB hb1
   (fun s A B row hs hg' hr=>⟨hI s A B row hs.1 hg' (steps (B:=B) hr),(grownBy_keeps hg' (fun k e=>(hr k e).2) hs.2.1 rfl).trans hs.2.1,(grownBy_keeps hg' (fun k e=>(hr k e).2) hs.2.2 rfl).trans hs.2.2⟩)
   (fun s A B row ⟨c,hc,hl,hk⟩ hg' hr=>⟨c,hIx c s A B row hc hg' (steps (B:=B) hr),(grownBy_keeps hg' (fun k e=>(hr k e).2) hl rfl).trans hl,(grownBy_keeps hg' (fun k e=>(hr k e).2) hk rfl).trans hk⟩)
   (fun pre W h=>hN pre W h.1) ?_ ⟨hI1,hL1,hK1⟩).mono ?_
  ·rintro pre x W ⟨hi,hl,hk⟩;have hlt:r < W.heap.size:=(Array.getElem?_eq_some_iff.1 hl).1;have hy:=run_yield (P:=P) (args:=encs x) hl (by rw[hrec];exact hps x);rw[hrec]at hy;refine⟨fn,_,assign,body,hy,roundIn_of_wpIn hfn (hassign _ x W _ ⟨_,run_beginRound hl (by rw[hrec]),?_⟩)⟩;obtain⟨W2,hW2⟩:∃W2,W.putObj r (.loop { rec .ready none with state:=.busy })=W2:=⟨_,rfl⟩
   rw[hW2];have hl2:W2.heap[r]? = some (.loop { rec .ready none with state:=.busy }):=by rw[<-hW2];exact World.putObj_heap_same hlt
   have hk2:W2.heap[w.heap.size]? = some (.deferred (some [])):=by rw[<-hW2];exact(World.putObj_heap_other (by omega)).trans hk
   have hw2:Kp W W2:=by rw[<-hW2];exact hKb _ _ _ _ (by omega) hl rfl rfl
   have hi2:I pre W2:=by rw[<-hW2];exact hI.putObj _ hi (by omega) hl rfl
   refine wpIn_mono (hbody _ pre x W2 hi2) ?_;have fin:∀(jump:Option Code) (W3:World),KeepsFrom w.heap.size W2 W3->
     (Instr.endRound r jump).run P W3=.ok (.bool jump.isNone) (W3.putObj r (.loop (rec (if jump.isNone then .ready else .done) jump)))/\W3.heap[r]? = some (.loop { rec .ready none with state:=.busy })/\
     (W3.putObj r (.loop (rec (if jump.isNone then .ready else .done) jump))).heap[r]? = some (.loop (rec (if jump.isNone then .ready else .done) jump))/\
     (W3.putObj r (.loop (rec (if jump.isNone then .ready else .done) jump))).heap[w.heap.size]? = some (.deferred (some [])):=fun jump W3 hk3=>by
    have hl3:=hk3.same _ _ (by omega) hl2 rfl;have hend:=run_endRound (P:=P) jump hl3;rw[hrec]at hend hl3 ⊢
    exact⟨hend,hl3,World.putObj_heap_same (Array.getElem?_eq_some_iff.1 hl3).1,(World.putObj_heap_other (by omega)).trans (hk3.same _ _ ao hk2 rfl)⟩
   rintro e a3 W3 hp
   cases e with
   | normal=>
    obtain⟨hk3,hkp3,hi3⟩:=hp;obtain⟨hr,hl3,hl4,hk4⟩:=fin none W3 hk3
    exact⟨_,_,hr,.inl ⟨rfl,⟨hI.putObj _ hi3 (by omega) hl3 rfl,hl4,hk4⟩,hKt (hKt hw2 hkp3) (hKb _ _ _ _ (by omega) hl3 rfl rfl)⟩⟩
   | ret=>
    obtain⟨hk3,hi3⟩:=hp;obtain⟨hr,hl3,hl4,hk4⟩:=fin (some .ret) W3 hk3
    exact⟨_,_,hr,.inr ⟨rfl,.ret,(hIx _).putObj _ hi3 (by omega) hl3 rfl,hl4,hk4⟩⟩
   | exit id=>
    obtain⟨hk3,hi3⟩:=hp;obtain⟨hr,hl3,hl4,hk4⟩:=fin (some (.exit id)) W3 hk3
    exact⟨_,_,hr,.inr ⟨rfl,.exit id,(hIx _).putObj _ hi3 (by omega) hl3 rfl,hl4,hk4⟩⟩
   | goto t=>
    obtain⟨hk3,hi3⟩:=hp;obtain⟨hr,hl3,hl4,hk4⟩:=fin (some (.goto t)) W3 hk3
    exact⟨_,_,hr,.inr ⟨rfl,.goto t,(hIx _).putObj _ hi3 (by omega) hl3 rfl,hl4,hk4⟩⟩
   | panic ch=>exact hp.elim
   | outgrown=>exact hp.elim
  ·rintro e W2 ⟨⟨v,rfl⟩,pre,hSp,c,hi,hl,hk⟩;have hend:=run_endLoop (P:=P) hl (by rw[hrec];simp);rw[hrec]at hend
   exact⟨some c,_,hend,hstop _ c pre _ ao hSp ((hIx c).putObj _ hi (by omega) hl rfl) ((World.putObj_heap_other (by omega)).trans hk)⟩
section
variable {n l:Nat} {P:Program} {ops:Array Oper} {md:Region.Mode} {Q:Exit->Act->World->Prop}
def fg (o:Oper):Bool:=match o.op with | .defer _=>false | _=>true
theorem mL {o:Oper} (h:fg o=true):∀c,o.op ≠ .defer c:=by
 intro c e;unfold fg at h;rw[e]at h
 cases h
theorem tE {o:Oper} {a:Act} {w:World} {K:Act->World->Prop} (hnd:fg o=true) (h:o.wp P a w K Q):o.wpIn (Fence.wide.inRound l) n P a w K Q:=by
 unfold Oper.wp at h;unfold Oper.wpIn;refine⟨fun _ _=>trivial,?_⟩;rw[Oper.semAt_eq _ _ _ (mL hnd)];generalize (execOp a.eval o).run P w=r at *
 cases r with
 | ok x w'=>
  cases x<;>simp only[Oper.upon]at h<;>simp only[Oper.uponIn]
  case value=>exact h
  case skip=>exact h
  case defer=>exact h
  case enter=>exact⟨(fun e=>by cases e),CallsIn.mono (CallsIn.inRound l (callsIn_wide.2 h)) (fun e w'' he=>by cases e<;>exact he)⟩
  case row=>exact⟨(fun e=>by cases e),fun c cs _=>let ⟨v,w',r,s⟩:=h c cs;⟨v,w',r,stepsIn_wide.2 s⟩⟩
 | halt x w'=>cases x<;>simp only[Oper.upon]at h<;>simp only[Oper.uponIn]<;>exact h
theorem ue (hl:¬LetsOut Q) (hnd:ops.all fg=true) {i:Nat} {K K':Act->World->Prop} {a:Act} {w:World} (hK:∀a w,K a w->K' a w) (h:wpOp P ops Q i K a w):wpOpIn (Fence.wide.inRound l) n P ops Q i K' a w:=by
 unfold wpOp at h;unfold wpOpIn
 split
 ·rename_i ho;simp only[ho]at h;exact hK _ _ h
 ·rename_i o ho;simp only[ho]at h;have hn:fg o=true:=by
   rw[Array.all_eq_true_iff_forall_mem]at hnd
   exact hnd o (Array.mem_of_getElem? ho)
  split
  ·rename_i hw;simp only[hw,if_true]at h;rcases h with h | ⟨_,h⟩
   ·exact tE hn (Oper.wp_mono hK h)
   ·exact absurd h hl
  ·rename_i hw;simp only[hw]at h
   exact⟨fun _ _=>trivial,hK _ _ h⟩
theorem lN (hl:¬LetsOut Q) (hnd:ops.all fg=true):∀(fuel:Nat) (listed:Array Bool) (a:Act) (w:World),wpAny P md ops Q fuel listed a w->wpAnyIn (Fence.wide.inRound l) n P md ops Q fuel listed a w
 | 0,_,_,_,h=>h
 | fuel+1,_,_,_,h=>⟨h.1,fun i hi=>ue hl hnd (fun a' w' h'=>lN hl hnd fuel _ a' w' h') (h.2 i hi)⟩
theorem eu {id:Nat} {a:Act} {w:World} {S:World->Prop} (hl:¬LetsOut Q) (hnd:ops.all fg=true) (hm:P.follows .mixedOrders=true) (hS:S w.drew)
  (h:S w.drew->wpAnyH P .any ops Q S ops.size (Array.replicate ops.size false) a w.drew):(Code.region id ops true).wpIn (Fence.wide.inRound l) n P Q a w:=
 wpIn_region_any hm (lN hl hnd _ _ _ _ (wpAny_of_held _ _ _ _ (h hS)))
end
end Go.Proofs.YtiiojpnckbglcaaGreat
