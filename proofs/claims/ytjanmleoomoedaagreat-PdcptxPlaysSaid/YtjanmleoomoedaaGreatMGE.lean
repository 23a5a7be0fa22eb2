import Derived.Test.YtjanmleoomoedaaGreatMGD
import Derived.Deep.RegionHeld3
import Derived.Lib.SliceRun
import Derived.Deep.Upon
namespace Go.Proofs.YtjanmleoomoedaaGreat
open Go.RowKit
set_option linter.unusedVariables false
attribute [local go_sem ↓] Go.wp_at_zero Go.wp_at_succ
private theorem zh {p:Prop} (h:p):Hid p:=h
private theorem tkH {P:Program} {ops:Array Oper} {Q:Exit→Act→World→Prop} {md:Region.Mode} {S:World→Prop} {i:Nat} {oi:Oper} {v:Value} {fuel:Nat} {listed l':Array Bool} {a a':Act} {w:World} (hi:ops[i]? = some oi) (hy:YieldsIf P ops S oi v a) (hS:S w)
  (h:wpAnyH P md ops Q S fuel l' a' w) (hl:listed.setIfInBounds i true=l':=by(try simp only[List.setIfInBounds_toArray,List.set_cons_zero,List.set_cons_succ]);rfl) (ha:a.put oi.dst v=a':=by(try simp only[Act.put,List.setIfInBounds_toArray,List.set_cons_zero,List.set_cons_succ]);rfl) (hs:Region.noSelect ops=true:=by kernel_rfl) (hf:Region.free md ops listed i=true:=by kernel_rfl) (hr:(Region.ready md ops listed).contains i=true:=by kernel_rfl)
  (hQ:∀c a w,Q (.panic c) (a.put oi.dst v) w→Q (.panic c) a w:=by exact fun _ _ _ h=>h):wpAnyH P md ops Q S (fuel+1) listed a w:=by subst hl;subst ha;exact wpAnyH_take hi hs hf hr hQ hy hS h
end Go.Proofs.YtjanmleoomoedaaGreat
namespace Go.Proofs.YtjanmleoomoedaaGreat
open Go.RowKit
set_option linter.unusedVariables false
attribute [local go_sem ↓] Go.wp_at_zero Go.wp_at_succ
section
variable {P:Program}
theorem run_clear_one (w:World) (t e ty:TypeId) (z:Value) (cs:List Value) (ht:P.underlying t=some (.slice e)) (hv:∀w,(zeroValue e).run P w=.ok z w) (hz:z.cells=cs.toArray) (h1:∀v∈cs,v.oneCell'=true) (b o c:Nat)
  (hc:∀j,j < cs.length→(w.cell? ⟨b,o+j,none⟩).isSome=true) (hf:∀j,j < cs.length→w.frozen? ⟨b,o+j,none⟩=false) :
  (Builtin.clear_ #[t] ty #[.slice (some ⟨b,o,none⟩) 1 c]).run P w=.ok (.tuple #[]) (w.setCells b o cs):=by
 have hzc:(Builtin.zeroCells z.cells 1).toList=cs:=by
  rw[hz]
  simp only[Builtin.zeroCells]
  apply List.ext_getElem
  ·simp
  ·intro i h1 h2
   simp[Nat.mod_eq_of_lt h2,List.getElem?_eq_getElem h2]
 have hst:=run_storeCells_cells (P:=P) b o cs 0 w (by simpa using hc) (by simpa using hf) (by simpa using h1)
 simp only[Nat.add_zero]at hst
 simp[Builtin.clear_,run_underlying ht,hv,hzc,hst]
theorem sl_append_room (w:World) (t tx ty e:TypeId) (i:TypeInfo) (sz:Nat) (ht:P.underlying t=some (.slice e)) (hi:P.info? e=some i) (hsize:i.size=sz)
  {b o n c:Nat} {xs:List Value} (h:SL w e sz (some ⟨b,o,none⟩) n c xs) (x:Value) (m:Nat) (news:List Value) (hs:Src P sz tx x m news w) (hroom:n+m≤c) :
  ∃w',(Builtin.append_ #[t,tx] ty #[.slice (some ⟨b,o,none⟩) n c,x]).run P w=.ok (.slice (some ⟨b,o,none⟩) (n+m) c) w'∧SL w' e sz (some ⟨b,o,none⟩) (n+m) c (xs++news)∧KeepF (fun k=>k=b) w w':=by
 subst hsize
 have hlen:(xs++news).length=(n+m)*i.size:=by rw[List.length_append,h.len,hs.newsLen,Nat.add_mul]
 rcases h.at_ with ⟨hA,_⟩ | ⟨b',o',cur,hA,h2,h3,h4,h5,h6⟩
 ·cases hA
 cases hA
 rcases Nat.eq_zero_or_pos m with rfl | hm
 ·have hn0:news=[]:=List.eq_nil_of_length_eq_zero (by rw[hs.newsLen];simp)
  subst hn0
  exact⟨w,run_append_nothing w t tx ty e i ht hi _ n c h3 x hs,by simpa using h,KeepF.refl⟩
 have hB:Blk w b e cur:=h2
 have hle:o+(n+m)*i.size≤cur.size:=Nat.le_trans (Nat.add_le_add_left (Nat.mul_le_mul_right _ hroom) _) h5
 have hnl:=hs.newsLen
 have hadd:(n+m)*i.size=n*i.size+news.length:=by rw[Nat.add_mul,hnl]
 have hr:=run_append_room_src (P:=P) w t tx ty e i ht hi b o n c x m news hs hroom (fun j hj=>by rw[hB.cell];rw[Array.getElem?_eq_getElem (by omega)];rfl) (fun j _=>hB.frozen _)
 refine⟨_,hr,⟨hlen,.inr ⟨b,o,_,rfl,ts_setCells news (o+n*i.size) w cur hB,hroom,h4,by rw[tsAll_size];exact h5,fun j hj=>?_⟩⟩,ts_keep (F:=fun k=>k=b) (b:=b) rfl news _ w⟩
 by_cases hjn:j < n*i.size
 ·rw[tsAll_out news _ cur _ (.inl (by omega)),h6 j hjn,List.getElem?_append_left (by rw[h.len];exact hjn)]
 ·have:=tsAll_in news (o+n*i.size) cur (j-n*i.size) (by omega) (by omega)
  rw[show o+n*i.size+(j-n*i.size)=o+j by omega]at this
  rw[this,List.getElem?_append_right (by rw[h.len];omega),h.len]
end
theorem SL.take {w:World} {e:TypeId} {sz:Nat} {A:Option Addr} {n c:Nat} {xs:List Value} (h:SL w e sz A n c xs) (k:Nat) (hk:k≤n):SL w e sz A k c (xs.take (k*sz)):=by
 have hm:k*sz≤n*sz:=Nat.mul_le_mul_right _ hk
 refine⟨by rw[List.length_take,h.len];omega,?_⟩
 rcases h.at_ with ⟨h1,h2,h3⟩ | ⟨b,o,cur,h1,h2,h3,h4,h5,h6⟩
 ·exact .inl ⟨h1,by omega,h3⟩
 ·exact .inr ⟨b,o,cur,h1,h2,by omega,h4,h5,fun j hj=>by rw[h6 j (by omega),List.getElem?_take,if_pos hj]⟩
theorem zPend_run (w:World):(zeroValue 69).run Tryz.prog w=.ok (.agg #[.int .u32 0,.slice none 0 0,.bool false]) w:=by kernel_rfl
theorem SL.past {w:World} {e:TypeId} {sz:Nat} {b o n c:Nat} {xs:List Value} (h:SL w e sz (some ⟨b,o,none⟩) n c xs) (k:Nat) (hk:n*sz≤k) (cs:List Value):SL (w.setCells b (o+k) cs) e sz (some ⟨b,o,none⟩) n c xs:=by
 refine⟨h.len,?_⟩
 rcases h.at_ with ⟨h1,h2,h3⟩ | ⟨b',o',cur,h1,h2,h3,h4,h5,h6⟩
 ·cases h1
 ·cases h1
  exact .inr ⟨b,o,_,rfl,ts_setCells cs (o+k) w cur h2,h3,h4,by rw[tsAll_size];exact h5,fun j hj=>by rw[tsAll_out cs _ cur _ (.inl (by omega)),h6 j hj]⟩
theorem SL.room {w:World} {e:TypeId} {sz:Nat} {b o n c:Nat} {xs:List Value} (h:SL w e sz (some ⟨b,o,none⟩) n c xs) {j:Nat} (hj:j < c*sz):(w.cell? ⟨b,o+j,none⟩).isSome=true:=by
 rcases h.at_ with ⟨h1,h2,h3⟩ | ⟨b',o',cur,h1,h2,h3,h4,h5,h6⟩
 ·cases h1
 ·cases h1
  rw[(show Blk w b e cur from h2).cell,Array.getElem?_eq_getElem (by omega)]
  rfl
theorem drop_flat (lp:List PE) (k:Nat):(lp.flatMap PE.cells).drop (k*3)=(lp.drop k).flatMap PE.cells:=by
 induction lp generalizing k with
 | nil=>simp
 | cons x r ih=>
  cases k with
  | zero=>simp
  | succ k=>rw[List.flatMap_cons,List.drop_succ_cons,←ih k,show(k+1)*3=(PE.cells x).length+k*3 from by show _=3+k*3;omega,List.drop_length_add_append]
theorem take_flat (lp:List PE) (k:Nat):(lp.flatMap PE.cells).take (k*3)=(lp.take k).flatMap PE.cells:=by
 induction lp generalizing k with
 | nil=>simp
 | cons x r ih=>
  cases k with
  | zero=>simp
  | succ k=>rw[List.flatMap_cons,List.take_succ_cons,List.flatMap_cons,←ih k,show(k+1)*3=(PE.cells x).length+k*3 from by show _=3+k*3;omega,List.take_length_add_append]
theorem firstP_eq (p:Nat→Bool) (n i:Nat) (hi:i < n) (hp:p i=true) (hno:∀j,j < i→p j=false):firstP p 0 n=(i:Int):=by
 have:∀d k,k+d=n→k≤i→firstP p k d=(i:Int):=by
  intro d
  induction d with
  | zero=>intro k h1 h2;omega
  | succ d ih=>
   intro k h1 h2
   rw[firstP]
   by_cases hk:k=i
   ·subst hk;rw[if_pos hp]
   ·rw[if_neg (by rw[hno k (by omega)];decide)]
    exact ih (k+1) (by omega) (by omega)
 exact this n 0 (by omega) (by omega)
def isCt (lp:List PE) (x:Int) (k:Nat):Bool:=match lp[k]? with | some e=>e.v.ct == x | none=>false
theorem tconf_ok (x y:Int) (A:Option Addr) (n c:Nat) (r:Bool) (xb:Nat) (w:World) (hx:w.cell? ⟨xb,0,none⟩=some (.int .u32 x)) (hlt:xb < w.heap.size):Calls Tryz.prog 44 #[.agg #[.int .u32 y,.slice A n c,.bool r],.pointer (some ⟨xb,0,none⟩)] w fun e w'=>e=.returned (.bool (y == x))∧Below w.heap.size w w':=by
 have hx':∀o,(w.alloc o).cell? ⟨xb,0,none⟩=some (.int .u32 x):=fun o=>Lib.cell?_alloc_some o hx
 go_enter Tryz.func44,Tryz.ntmps44
 go_wp2
 go_ret
 exact⟨rfl,(Below.refl _ _).alloc (Nat.le_refl _) _⟩
theorem pindex_ok (A:Option Addr) (n c:Nat) (lp:List PE) (hn:n=lp.length) (x:Int) (xb:Nat) (w:World) (h:SL w 69 3 A n c (lp.flatMap PE.cells)) (hx:w.cell? ⟨xb,0,none⟩=some (.int .u32 x)) (hlt:xb < w.heap.size) :
  Calls Tryz.prog 40 #[.slice A n c,.func (.func 44) #[] #[.pointer (some ⟨xb,0,none⟩)]] w fun e w'=>e=.returned (.int .i64 (firstP (isCt lp x) 0 n))∧Below w.heap.size w w':=by
 have hcm:=h.cmax
 have hle:=h.le
 unfold maxLen at hcm
 have HSL:=zh h
 have HX:=zh (fun(W:World) (hb:Below w.heap.size w W) (y:Int) (A':Option Addr) (n' c':Nat) (r:Bool)=>tconf_ok x y A' n' c' r xb W ((hb.cell (p:=⟨xb,0,none⟩) hlt).trans hx) (Nat.lt_of_lt_of_le hlt hb.size))
 obtain⟨F,hF⟩:∃F,F=isCt lp x:=⟨_,rfl⟩
 have HF0:=zh hF
 have HN:=zh hn
 rw[←hF]
 clear h hx hF hn
 go_enter Tryz.func40,Tryz.ntmps40
 go_wp2
 go_loopw [8] (fun v wr=>∃k:Nat,k≤n∧v=.int .i64 k∧firstP F 0 n=firstP F k (n-k)∧Below w.heap.size w wr) (fun v _=>n-(intOf v).toNat)
 case atStart=>exact⟨0,by omega,rfl,rfl,Below.refl _ _⟩
 case round=>
  obtain⟨k,hk,rfl,hfw,hb⟩:=hrel
  have HF:=zh hfw
  have HB:=zh hb
  clear hfw hb
  by_cases hlt2:k < n
  ·obtain⟨e0,he0⟩:∃e0,lp[k]? = some e0:=⟨lp[k]'(by have:=HN.out;omega),by simp[HN.out ▸ hlt2]⟩
   have hS:=HSL.out.next HB.out
   obtain⟨b,o,hA,hbl⟩:=hS.some_ (by omega)
   have c0:=hS.cell hA (j:=k*3+0) (by omega)
   have c1:=hS.cell hA (j:=k*3+1) (by omega)
   have c2:=hS.cell hA (j:=k*3+2) (by omega)
   rw[flat_at PE.cells 3 PE.len lp k _ e0 he0 (by omega)]at c0 c1 c2
   have hFk:F k=(e0.v.ct == x):=by rw[HF0.out];unfold isCt;rw[he0]
   obtain⟨⟨y,pn,pz,pr⟩,PA,pc⟩:=e0
   simp only[PE.cells,List.getElem?_cons_zero,List.getElem?_cons_succ,Nat.add_zero]at c0 c1 c2
   dsimp only at hFk
   have HC:=zh (HX.out wr HB.out y PA pn pc pr)
   have HST:=zh (firstP_step F k n hlt2)
   obtain⟨bb,hbb⟩:∃bb,bb=(y == x):=⟨_,rfl⟩
   rw[←hbb]at HC hFk
   have HFk:=zh hFk
   subst hA
   have c1':wr.cell? ⟨b,o+(k*3+1),none⟩=_:=c1
   clear hbb hFk hS he0
   have k0:(0:Int)≤(k:Int):=by omega
   have k1:(k:Int) < (n:Int):=by omega
   rw[←Nat.add_assoc]at c1 c2
   cases bb
   ·have HS2:=zh (HST.out.trans (if_neg (by rw[HFk.out];decide)))
    go_wp2_with (go_at_call 44;refine(HC.out).mono ?_;rintro e w2 ⟨rfl,hB2⟩;have HB2:=zh (HB.out.trans (hB2.mono HB.out.size));clear hB2)
    go_roundw
    case rel=>exact⟨k+1,by omega,by go_num,by rw[HF.out,HS2.out],HB2.out⟩
    case measure=>simp[intOf];omega
   ·have HS2:=zh (HST.out.trans (if_pos HFk.out))
    go_wp2_with (go_at_call 44;refine(HC.out).mono ?_;rintro e w2 ⟨rfl,hB2⟩;have HB2:=zh (HB.out.trans (hB2.mono HB.out.size));clear hB2)
    go_ret
    exact⟨ret_int (by rw[HF.out,HS2.out]),HB2.out⟩
  ·obtain rfl:k=n:=by omega
   have HF2:=zh (show firstP F 0 k = -1 by rw[HF.out,Nat.sub_self];rfl)
   clear HF
   go_wp2
   go_ret
   exact⟨ret_int HF2.out.symm,HB.out⟩
end Go.Proofs.YtjanmleoomoedaaGreat
namespace Go.Proofs.YtjanmleoomoedaaGreat
open Go.RowKit
set_option linter.unusedVariables false
attribute [local go_sem ↓] Go.wp_at_zero Go.wp_at_succ
theorem pe_one (lp:List PE):∀u,u∈lp.flatMap PE.cells→u.oneCell'=true:=fun u hu=>by
 obtain⟨e,_,he⟩:=List.mem_flatMap.1 hu
 simp only[PE.cells,List.mem_cons,List.not_mem_nil,or_false]at he
 rcases he with rfl | rfl | rfl<;>rfl
theorem wp_sl_room {P:Program} {op:Oper} {a:Act} {K:Act→World→Prop} {Q:Exit→Act→World→Prop} (s x:Operand) (t tx:TypeId) (ho:op.op=.call { callee:=.builtin .append,args:=#[s,x],argTypes:=#[t,tx] })
  (w:World) (e:TypeId) (i:TypeInfo) (sz:Nat) (ht:P.underlying t=some (.slice e)) (hi:P.info? e=some i) (hsize:i.size=sz) (b o n c:Nat) (xs:List Value) (hsv:a.eval s=.slice (some ⟨b,o,none⟩) n c) (h:SL w e sz (some ⟨b,o,none⟩) n c xs)
  (xv:Value) (hxv:a.eval x=xv) (m:Nat) (news:List Value) (hs:Src P sz tx xv m news w) (hroom:n+m≤c)
  (hK:∀w',SL w' e sz (some ⟨b,o,none⟩) (n+m) c (xs++news)→KeepF (fun k=>k=b) w w'→K (a.put op.dst (.slice (some ⟨b,o,none⟩) (n+m) c)) w'):op.wp P a w K Q:=by
 have hf:=fun ty=>@sl_append_room P w t tx ty e i sz ht hi hsize b o n c xs h xv m news hs hroom
 obtain⟨w',hrun,h1,h2⟩:=hf op.type
 unfold Oper.wp execOp
 simp only[ho,resolve,invoke,builtin,Sem.run_bind,Sem.run_pure,Result.andThen_ok,List.map_toArray,List.map_cons,List.map_nil,hsv,hxv,hrun]
 exact hK w' h1 h2
set_option maxRecDepth 100000 in
set_option maxHeartbeats 1600000 in
theorem tdelete_ok (b o n c i:Nat) (lp:List PE) (hn:n=lp.length) (hi:i < n) (w:World) (h:SL w 69 3 (some ⟨b,o,none⟩) n c (lp.flatMap PE.cells)) :
  Calls Tryz.prog 45 #[.slice (some ⟨b,o,none⟩) n c,.int .i64 i,.int .i64 ((i:Int)+1)] w fun e w'=>e=.returned (.slice (some ⟨b,o,none⟩) (n-1) c)∧SL w' 69 3 (some ⟨b,o,none⟩) (n-1) c ((lp.eraseIdx i).flatMap PE.cells)∧KeepF (fun k=>k=b) w w':=by
 have hcm:=h.cmax
 have hle:=h.le
 unfold maxLen at hcm
 have HSL:=zh h
 have HN:=zh hn
 have h1:(i:Int)+1≤(n:Int):=by omega
 have h2:(n:Int)≤(c:Int):=by omega
 have h3:(c:Int)≤9223372036854775807:=by omega
 have h4:(0:Int)≤(i:Int):=by omega
 have HTAKE:=zh (take_flat lp i ▸ h.take i (by omega))
 have HDROP:=zh (drop_flat lp (i+1))
 have hci:¬c < i:=by omega
 have h5:(0:Int)≤(i:Int)+1:=by omega
 clear h hn
 go_enter Tryz.func45,Tryz.ntmps45
 go_upto_region 5 with (fail)
 obtain⟨ip,hip,hipz,hips,hipb⟩:=infoPend
 obtain⟨w0,hw0⟩:∃w0,w0=w.drew:=⟨_,rfl⟩
 have hb0:Below w.heap.size w w0:=by rw[hw0];exact(Below.refl _ _).drew
 refine wp_region_held_drew (S:=fun w'=>KeepF (fun j=>j=b) w w') (by kernel_rfl) ((KeepF.refl (w:=w)).drew) (fun hHeld=>?_)
 rw[←hw0]
 rw[←hw0]at hHeld
 obtain⟨SA,hSA⟩:∃SA:Addr,SA=if c=i+1 then ⟨b,o,none⟩ else ⟨b,o+(i+1)*3,none⟩:=⟨_,rfl⟩
 have hSS:(if c=i+1 then some (⟨b,o,none⟩:Addr) else some ⟨b,o+(i+1)*3,none⟩)=some SA:=by rw[hSA];split<;>rfl
 have HAD:=zh (show ∀j,j < (n-(i+1))*3→SA=⟨b,o+(i+1)*3,none⟩from fun j hj=>by rw[hSA,if_neg (by omega)])
 clear hw0 hSA
 refine tkH (i:=0) (oi:=⟨some 20,_,_,_,_,_⟩) (v:=.slice (some ⟨b,o,none⟩) n c) rfl (Or.inl ⟨by rfl,fun W hW=>(by rfl)⟩) (by assumption) ?_
 refine tkH (i:=1) (oi:=⟨some 21,_,_,_,_,_⟩) (v:=.int .i64 i) rfl (Or.inl ⟨by rfl,fun W hW=>(by rfl)⟩) (by assumption) ?_
 refine tkH (i:=2) (oi:=⟨some 22,_,_,_,_,_⟩) (v:=.slice (some ⟨b,o,none⟩) i c) rfl (Or.inl ⟨by rfl,fun W hW=>(by go_simp)⟩) (by assumption) ?_
 refine tkH (i:=3) (oi:=⟨some 23,_,_,_,_,_⟩) (v:=.slice (some ⟨b,o,none⟩) n c) rfl (Or.inl ⟨by rfl,fun W hW=>(by rfl)⟩) (by assumption) ?_
 refine tkH (i:=4) (oi:=⟨some 24,_,_,_,_,_⟩) (v:=.int .i64 ((i:Int)+1)) rfl (Or.inl ⟨by rfl,fun W hW=>(by rfl)⟩) (by assumption) ?_
 refine tkH (i:=5) (oi:=⟨some 25,_,_,_,_,_⟩) (v:=.slice (some SA) (n-(i+1)) (c-(i+1))) rfl (Or.inl ⟨by rfl,fun W hW=>(by go_simp)⟩) (by assumption) ?_
 clear hSS
 refine wpAnyH_ready (rs:=[6]) (by kernel_rfl) (by simp) ?_
 refine AllReadyH.cons (o:=⟨some 26,_,_,_,_,_⟩) rfl (fun K hK=>?_) AllReadyH.nil
 rw[if_pos (by rfl)]
 have hS0:=HTAKE.out.next hb0
 have hF0:=HSL.out.next hb0
 have hdl:((lp.drop (i+1)).flatMap PE.cells).length=(n-(i+1))*3:=by rw[flat_len PE.cells 3 PE.len,List.length_drop,HN.out]
 refine wp_sl_room _ _ 64 64 rfl w0 69 ip 3 Tryz.underlying64 hip hips b o i c _ rfl hS0 (.slice (some SA) (n-(i+1)) (c-(i+1))) rfl (n-(i+1)) ((lp.drop (i+1)).flatMap PE.cells)
  (Src.ofSlice _ Tryz.underlying64 SA (n-(i+1)) (c-(i+1)) _ hdl (fun j u hu=>by
   have hj:j < (n-(i+1))*3:=by rw[←hdl];exact(List.getElem?_eq_some_iff.1 hu).1
   rw[HAD.out j hj,Addr.add_lit,show o+(i+1)*3+j=o+((i+1)*3+j) by omega,hF0.cell rfl (by omega)]
   rw[←HDROP.out,List.getElem?_drop]at hu
   exact hu) (pe_one _)) (by omega) ?_
 intro wA hSA hKA
 have hxs:(lp.take i).flatMap PE.cells++(lp.drop (i+1)).flatMap PE.cells=(lp.eraseIdx i).flatMap PE.cells:=by rw[←List.flatMap_append,List.eraseIdx_eq_take_drop_succ]
 rw[hxs]at hSA
 rw[show i+(n-(i+1))=n-1 by omega]at hSA ⊢
 have HSA:=zh hSA
 have HKA:=zh ((KeepF.of_below (F:=fun k=>k=b) hb0).trans hKA (fun _ _ h=>h))
 clear hS0 hF0 hdl hxs hSA hKA
 refine hK.out _ _ HKA.out (fun hHeld=>?_)
 clear hK K
 try simp only[Act.put,List.setIfInBounds_toArray]
 refine tkH (i:=7) (oi:=⟨some 0,_,_,_,_,_⟩) (v:=.slice (some ⟨b,o,none⟩) (n-1) c) rfl (Or.inl ⟨by rfl,fun W hW=>(by go_simp)⟩) (by assumption) ?_
 refine wpAnyH_done (by kernel_rfl) ?_ _
 have hroom:∀j,j < 3→(wA.cell? ⟨b,o+(n-1)*3+j,none⟩).isSome=true:=fun j hj=>by
  have:=HSA.out.room (j:=(n-1)*3+j) (by omega)
  rwa [←Nat.add_assoc]at this
 have hfr:∀j,j < 3→wA.frozen? ⟨b,o+(n-1)*3+j,none⟩=false:=fun j hj=>HSA.out.frozen rfl _
 have hcl:∀ty,(Builtin.clear_ #[64] ty #[.slice (some ⟨b,o+(n-1)*3,none⟩) (n-(n-1)) (c-(n-1))]).run Tryz.prog wA=.ok (.tuple #[]) (wA.setCells b (o+(n-1)*3) [.int .u32 0,.slice none 0 0,.bool false]):=fun ty=>by
  rw[show n-(n-1)=1 by omega]
  exact run_clear_one wA 64 69 ty _ [.int .u32 0,.slice none 0 0,.bool false] Tryz.underlying64 zPend_run rfl (by simp[Value.oneCell']) b (o+(n-1)*3) (c-(n-1)) (fun j hj=>hroom j hj) (fun j hj=>hfr j hj)
 have HF:=zh (HSA.out.past ((n-1)*3) (Nat.le_refl _) [.int .u32 0,.slice none 0 0,.bool false])
 have HG:=zh (HKA.out.trans (ts_keep (F:=fun k=>k=b) (b:=b) rfl [.int .u32 0,.slice none 0 0,.bool false] (o+(n-1)*3) wA) (fun _ _ h=>h))
 obtain⟨wB,hwB⟩:∃wB,wB=wA.setCells b (o+(n-1)*3) [.int .u32 0,.slice none 0 0,.bool false]:=⟨_,rfl⟩
 rw[←hwB]at hcl HF HG
 clear hroom hfr hwB HSA HKA
 have hn1:((n-1:Nat):Int)=(n:Int)-1:=by omega
 go_wp2
 go_ret
 exact⟨rfl,HF.out,HG.out⟩
set_option maxRecDepth 100000 in
set_option maxHeartbeats 1600000 in
theorem tconfirm_ok (g:Nat) (s:TS) (W R:Nat→Prop) (w:World) (h:TxI w g s W R) (x:Int) (i:Nat) (e0:PV) (he:s.P[i]? = some e0) (hx:e0.ct=x) (hno:∀j,j < i→∀e,s.P[j]? = some e→e.ct ≠ x) :
  Calls Tryz.prog 17 #[.pointer (some ⟨g,0,none⟩),.int .u32 x] w fun e w'=>e=.returned (.int .i64 0)∧TxO W R w w' g { s with P:=s.P.eraseIdx i }:=by
 have HM:=zh (fun(V:World) (hb:Below w.heap.size w V)=>tmade_ok g s W R V (h.below hb))
 obtain⟨qA,qc,lq,pA,pc,lp,ub,cb,hT⟩:=h
 have HT:=zh hT
 obtain⟨pe,hpe,hpev⟩:∃pe,lp[i]? = some pe∧pe.v=e0:=by
  rw[←hT.pv,List.getElem?_map]at he
  cases hq:lp[i]? with
  | none=>rw[hq]at he;cases he
  | some q=>rw[hq]at he;exact⟨q,rfl,by simpa using he⟩
 have hil:i < lp.length:=(List.getElem?_eq_some_iff.1 hpe).1
 obtain⟨b,o,hpA,hbl⟩:=hT.p.some_ (by omega)
 have hF0:firstP (isCt lp x) 0 lp.length=(i:Int):=firstP_eq _ _ _ hil (by unfold isCt;rw[hpe];simp[hpev,hx]) (fun j hj=>by
  unfold isCt
  have hjl:j < lp.length:=by omega
  rw[List.getElem?_eq_getElem hjl]
  have:=hno j hj lp[j].v (by rw[←hT.pv,List.getElem?_map,List.getElem?_eq_getElem hjl];rfl)
  simpa using this)
 subst hpA
 have hcm:=hT.p.cmax
 unfold maxLen at hcm
 have hle:=hT.p.le
 obtain⟨n,hn⟩:∃n,n=lp.length:=⟨_,rfl⟩
 have HN:=zh hn
 have hgl:=hT.blk.lt
 rw[←hn]at hle hil hF0
 have HF0:=zh hF0
 clear hT he hno hpe hF0 hn
 go_enter Tryz.func17,Tryz.ntmps17
 go_upto_region 1 with (fail)
 refine wp_let (fun V=>V.cell? ⟨w.heap.size,0,none⟩=some (.int .u32 x)∧Below w.heap.size w V∧w.heap.size < V.heap.size) ⟨(Blk.new _ _ _).cell 0,(Below.refl _ w).alloc (Nat.le_refl _) _,by simp⟩ ?_
 rintro W1 ⟨b1,b2,b3⟩
 obtain⟨xb,hxb⟩:∃xb,xb=w.heap.size:=⟨_,rfl⟩
 have B2:=zh b2
 have T1:=zh (HT.out.below b2)
 have HI:=zh (pindex_ok (some ⟨b,o,none⟩) lp.length pc lp rfl x xb W1 T1.out.p (by rw[hxb];exact b1) (by omega))
 rw[←HN.out]at HI
 have c1:=T1.out.cp
 rw[←HN.out]at c1
 rw[←hxb]
 rw[HF0.out]at HI
 have i0:(0:Int)≤(i:Int):=by omega
 have i1:(i:Int) < (n:Int):=by omega
 have i2:(n:Int)≤9223372036854775807:=by omega
 clear b1 b2 hxb
 go_upto_region 6 with (first
  | (go_at_call 43;refine(HM.out _ B2.out).mono ?_;rintro e w2 ⟨rfl,rfl⟩)
  | (go_at_call 40;refine(HI.out).mono ?_;rintro e w3 ⟨rfl,hB⟩;have E2:=zh hB;clear hB))
 have B3:=zh (B2.out.trans (E2.out.mono B2.out.size))
 have T3:=zh (T1.out.below E2.out)
 have c3:=T3.out.cp
 rw[←HN.out]at c3
 have HD:=zh (tdelete_ok b o n pc i lp HN.out hil w3 (HN.out ▸ T3.out.p))
 clear c1
 have hgb:g ≠ b:=T3.out.gp _ rfl
 have hel:(lp.eraseIdx i).length=n-1:=by rw[List.length_eraseIdx,if_pos (by rw[←HN.out];exact hil),HN.out]
 have HEL:=zh hel
 clear hel
 go_wp2_with (go_at_call 45;refine(HD.out).mono ?_;rintro e w4 ⟨rfl,hS4,hK4⟩;have S4:=zh hS4;have K4:=zh hK4;have G4:=hK4.blk T3.out.blk hgb;have c4:=(G4.cell 43).trans (tArr_high s.C.arr_size 4);have f4:=G4.frozen 43;simp at c4;clear hS4 hK4 G4)
 go_ret
 have hK5:KeepF (fun k=>∃a,(some ⟨b,o,none⟩:Option Addr)=some a∧k=a.block) w3 w4:=K4.out.mono (fun k e=>⟨_,rfl,e⟩)
 have TF:=T3.out.setP (lp':=lp.eraseIdx i) (pA':=some ⟨b,o,none⟩) (pc':=pc) hK5 (fun a ha=>.inl ⟨a,ha,rfl⟩) (by rw[HEL.out];exact S4.out)
  (fun e he=>(T3.out.pe e (List.mem_of_mem_eraseIdx he)).keep hK5 (fun k ⟨a,ha,e2⟩ hr=>T3.out.dis k (by rw[e2];exact T3.out.wp a ha) hr))
  (fun e he=>T3.out.pr e.v (by rw[←T3.out.pv];exact List.mem_map_of_mem (List.mem_of_mem_eraseIdx he)))
 rw[HEL.out]at TF
 have hpm:(lp.eraseIdx i).map (·.v)=s.P.eraseIdx i:=by rw[List.eraseIdx_eq_take_drop_succ,List.map_append,List.map_take,List.map_drop,T3.out.pv,←List.eraseIdx_eq_take_drop_succ]
 rw[hpm]at TF
 refine⟨rfl,_,R,⟨_,_,_,_,_,_,_,_,TF⟩,?_,fun k hr=>.inl hr,?_⟩
 ·rintro k (hk | ⟨a,ha,rfl⟩)
  ·exact .inl hk
  ·exact .inl (T3.out.wp a ha)
 ·exact((KeepF.of_below (F:=W) B3.out).trans (K4.out.mono (G:=W) (fun k e=>by rw[e];exact T3.out.wp _ rfl)) (fun _ _ h=>h)).setCell (p:=⟨g,43,none⟩) T3.out.wg _
end Go.Proofs.YtjanmleoomoedaaGreat
