import Derived.Test.YtbfpdnnphdagjaaGreatMLLy
import Derived.Test.YtbfpdnnphdagjaaGreatMLXy
import Derived.Test.YtbfpdnnphdagjaaGreatMZOy
import Derived.Test.YtbfpdnnphdagjaaGreatB1y
set_option maxRecDepth 100000
set_option maxHeartbeats 6400000
set_option linter.unusedVariables false
set_option linter.unusedSimpArgs false
namespace Go.Proofs.YtbfpdnnphdagjaaGreat
open Go.RowKit
attribute [local go_sem ↓] Go.wp_at_zero Go.wp_at_succ
def ax.lnk (c:ax):ax:={ c with cm:=false,ac:=true,ro:=0,ds:=0 }
theorem fl (C C':ax) (i:Nat) (hi:i < 39) (v:Value) (hv:C'.cell i=v) (ho:∀j,j < 39->j ≠ i->C'.cell j=C.cell j):C.arr.setIfInBounds i v=C'.arr:=by
 apply Array.ext_getElem?;intro j;by_cases e:j=i
 ·subst e;rw[Array.getElem?_setIfInBounds_self_of_lt (by rw[C.arr_size];exact hi),C'.arr_at hi,hv]
 ·rw[Array.getElem?_setIfInBounds_ne (by omega)];by_cases h:j < 39
  ·rw[C.arr_at h,C'.arr_at h,ho j h e]
  ·rw[Array.getElem?_eq_none (by rw[C.arr_size];omega),Array.getElem?_eq_none (by rw[C'.arr_size];omega)]
theorem sH (c:ax):(((c.arr.setIfInBounds 35 (.bool false)).setIfInBounds 36 (.bool true)).setIfInBounds 38 (.int .i64 0)).setIfInBounds 37 (.int .i64 0)=c.lnk.arr:=by
 rw[fl c { c with cm:=false } 35 (by decide) (.bool false) rfl (fun j h9 hj=>by unfold ax.cell;simp[hj]),
  fl { c with cm:=false } { c with cm:=false,ac:=true } 36 (by decide) (.bool true) rfl (fun j h9 hj=>by unfold ax.cell;simp[hj]),
  fl { c with cm:=false,ac:=true } { c with cm:=false,ac:=true,ro:=0 } 38 (by decide) (.int .i64 0) rfl (fun j h9 hj=>by
   have h37:j < 37\/j=37:=by omega
   unfold ax.cell;rcases h37 with h37 | rfl
   ·by_cases e0:j=36
    ·subst e0;rfl
    ·by_cases e1:j=35
     ·subst e1;rfl
     ·by_cases e2:j=34
      ·subst e2;rfl
      ·have e3:j < 34:=by omega
       simp[e3]
   ·rfl),
  fl { c with cm:=false,ac:=true,ro:=0 } c.lnk 37 (by decide) (.int .i64 0) rfl (fun j h9 hj=>by unfold ax.cell ax.lnk;simp[hj])]
def ax.wkey (c:ax) (f:Nat->Int):ax:={ c with key:=f }
theorem xj (C:ax) (f:Nat->Int):bI C.arr 2 (aj f).toList=(C.wkey f).arr:=by
 have l1:(aj f).toList.length=16:=rfl;have hs:=C.arr_size;apply Array.ext_getElem?;intro j;by_cases h2:2<=j/\j < 18
 ·have:=bH (aj f).toList 2 C.arr (j-2) (by omega) (by rw[hs];omega);rw[show 2+(j-2)=j by omega]at this;rw[this,Array.getElem?_toList,bB f _ (by omega),ax.arr_at _ (by omega)];unfold ax.cell;rw[if_neg (by omega),if_neg (by omega),if_pos (by omega)]
  rfl
 ·rw[bf _ _ _ _ (by omega)];by_cases h3:j < 39
  ·rw[C.arr_at h3,ax.arr_at _ h3];unfold ax.cell ax.wkey;by_cases e:j < 18
   ·have:j=0\/j=1:=by omega
    rcases this with rfl | rfl<;>rfl
   ·rw[if_neg (show ¬j=0 by omega),if_neg (show ¬j=1 by omega),if_neg e,if_neg (show ¬j=0 by omega),if_neg (show ¬j=1 by omega),if_neg e]
  ·rw[Array.getElem?_eq_none (by rw[hs];omega),Array.getElem?_eq_none (by rw[ax.arr_size];omega)]
def iQ (k:Int):Array Value:=#[.pointer none,.pointer none,.pointer none,.pointer none,.slice none 0 0,.slice none 0 0,.slice none 0 0,.slice none 0 0,.int .i64 k]
theorem vM (cf:ax) (hv:¬cf.lnk.Valid) (w:World):Calls Tryz.prog 6 #[.agg cf.arr] w fun e w'=>e=.returned (.pointer none)/\Below w.heap.size w w':=by
 have HLK:=zh (sH cf);have HVL:=zh (fun V=>fX cf.lnk V);rw[decide_eq_false hv]at HVL;have HSA:Hid ((Tryz.prog.info? 25).map (·.size)=some cf.lnk.arr.toList.length):=zh (by rw[Array.length_toList,ax.arr_size];exact aS);have HAZ:Hid (cf.arr.size=39):=zh cf.arr_size;have HUC:=zh Tryz.underlying25;obtain⟨CA,hCA⟩:=af cf.arr
 obtain⟨CB,hCB⟩:=af cf.lnk.arr
 rw[<-hCA]at HLK HAZ ⊢;rw[<-hCB]at HLK HVL HSA;clear hCA hCB hv;go_enter Tryz.func6,Tryz.ntmps6;go_upto_region 1 with (fail)
 obtain⟨kb,hkb⟩:=af w.heap.size
 have HKB:=zh hkb;refine ah (fun V=>ae V kb 25 CA/\Below w.heap.size w V) ⟨by rw[hkb];exact ae.new _ _ _,(Below.refl _ w).alloc ay _⟩ ?_;rintro V ⟨b0,b5⟩;rw[<-hkb];have HB0:=zh b0;have HV:=zh b5;have HN:=zh (show ∀j,j < 39->∃v,V.cell? ⟨kb,j,none⟩=some v from fun j hj=>by
  rw[b0.cell]
  exact⟨_,Array.getElem?_eq_getElem (by rw[HAZ.out];exact hj)⟩)
 obtain⟨v5,c5⟩:=HN.out 35 (by decide);obtain⟨v6,c6⟩:=HN.out 36 (by decide);obtain⟨v7,c7⟩:=HN.out 37 (by decide);obtain⟨v8,c8⟩:=HN.out 38 (by decide);have f5:=b0.frozen 35;have f6:=b0.frozen 36;have f7:=b0.frozen 37;have f8:=b0.frozen 38;clear b0 b5 hkb;go_upto_region 2 with (fail)
 refine ah (fun V2=>ae V2 kb 25 CB/\Below w.heap.size w V2) ⟨by have:=(((HB0.out.set_ 35 (.bool false)).set_ 36 (.bool true)).set_ 38 (.int .i64 0)).set_ 37 (.int .i64 0);rw[HLK.out]at this;exact this,(((HV.out.setCell (by show w.heap.size<=kb;have:=HKB.out;omega) _).setCell (by show w.heap.size<=kb;have:=HKB.out;omega) _).setCell (by show w.heap.size<=kb;have:=HKB.out;omega) _).setCell (by show w.heap.size<=kb;have:=HKB.out;omega) _⟩ ?_;rintro V2 ⟨b0,b5⟩;have HB2:=zh b0;have HV2:=zh b5;have R0:=zh (show V2.rangeAt kb 0 CB.toList from fun j y hy=>by rw[b0.cell,Nat.zero_add,<-hy,Array.getElem?_toList]);clear b0 b5 c5 c6 c7 c8 f5 f6 f7 f8 HN;go_wp2_with (first
  | (refine wpList_load_mid rfl 25 _ rfl kb 0 rfl CB.toList _ R0.out HUC.out rfl HSA.out ?_)
  | (go_at_call 7;refine(HVL.out _).mono ?_;rintro e w1 ⟨rfl,hb⟩;have B1:=zh hb;clear hb))
 go_ret
 exact⟨rfl,HV2.out.trans (B1.out.mono HV2.out.size)⟩
theorem sj {P:Program} {c:Code} {Q:Exit->Act->World->Prop} {a:Act} {w:World} (T:Act->Nat->Nat->Nat->Act) (F:Nat->Nat->Nat->Obj->World->Prop) (h:c.wp P (fun e a' w'=>e=.normal/\∃(sb g h:Nat) (X:Obj),a'=T a sb g h/\F sb g h X w') a w) (hq:∀sb g h X w',F sb g h X w'->Q .normal (T a sb g h) w'):c.wp P Q a w:=
 wp_mono h (fun e a' w' h1=>by
  obtain⟨rfl,sb,g,h,X,rfl,hF⟩:=h1
  exact hq sb g h X w' hF)
def Bf (l:List Ag):Nat->Ag:=fun j=>l.getD j (bX 0 0 #[])
theorem an.blk2 {w0 w:World} {a b:Nat} {t u:TypeId} {cs ds:Array Value} (h1:ae w a t cs) (h2:ae w b u ds) (ha:w0.heap.size<=a) (hb:w0.heap.size<=b) (hne:a ≠ b) (hl:Below w0.heap.size w0 w):an w0 w 2 (Bf [bX a t cs,bX b u ds]):=by
 refine⟨fun j k=>k=if j=0 then a else b,fun j hj=>?_,fun j hj k hk=>?_,fun i j hi hj hij k h3 h4=>?_,hl⟩
 ·rcases (by omega:j=0\/j=1)with rfl | rfl
  ·exact⟨h1,fun k=>Iff.rfl⟩
  ·exact⟨h2,fun k=>Iff.rfl⟩
 ·rcases (by omega:j=0\/j=1)with rfl | rfl
  ·have:k=a:=hk;omega
  ·have:k=b:=hk;omega
 ·rcases (by omega:i=0/\j=1\/i=1/\j=0)with ⟨rfl,rfl⟩ | ⟨rfl,rfl⟩
  ·have e1:k=a:=h3;have e2:k=b:=h4
   exact hne (e1.symm.trans e2)
  ·have e1:k=b:=h3;have e2:k=a:=h4
   exact hne (e2.symm.trans e1)
theorem an.putRow {w0 w:World} {n:Nat} {A:Nat->Ag} (h:an w0 w n A) {i:Nat} (hi:i < n) {b:Nat} {t:TypeId} {cs:Array Value} (hA:A i=bX b t cs) (o:Nat) (vs:List Value):an w0 (w.setCells b o vs) n (bW A i (bX b t (bI cs o vs))):=by
 obtain⟨O,h1,h2,_,h3⟩:=h.at_ hi;rw[hA]at h1;obtain⟨t1,t2⟩:=h1
 exact h3 _ (fun k=>k=b) _ ⟨aP vs o w _ t1,fun k=>Iff.rfl⟩ ((bP (F:=fun k=>k=b) rfl vs o w).mono (fun k hk=>(t2 k).2 hk)) (fun k hk=>.inl ((t2 k).2 hk))
theorem og (V:World):(uG none 0 []).P V (fun _=>False):=⟨fun _=>False,⟨⟨[],rfl,SL.nil _ _ _,fun x hx=>(by cases hx)⟩,fun a ha=>(by cases ha)⟩,fun k hk=>hk.elim,fun k=>⟨fun hk=>hk.elim,fun hk=>hk.elim id (fun⟨a,ha,_⟩=>by cases ha)⟩⟩
theorem an.newBlk {w0 w:World} {n:Nat} {A:Nat->Ag} (h:an w0 w n A) (t:TypeId) (cs:Array Value):an w0 (w.alloc (.cells cs t)) (n+1) (bW A n (bX w.heap.size t cs)):=
 h.new_ ((Below.refl _ w).alloc ay _) (O':=fun k=>k=w.heap.size) ⟨ae.new _ _ _,fun k=>Iff.rfl⟩ (fun k hk=>by omega)
theorem uZ (cf:ax) (hv:cf.lnk.Valid) (w:World):Calls Tryz.prog 6 #[.agg cf.arr] w fun e w'=>∃(lb:Nat) (L:cY) (X X':Obj),e=.returned (.pointer (some ⟨lb,0,none⟩))/\Lk w w' lb L/\L.x0=⟨cf.lnk.wkey (aY 1001),0,0,fun _=>false,fun _=>false,fun _=>false,0,gm (cf.lnk.wkey (aY 1001)),eZ (cf.lnk.wkey (aY 1001)) X,[]⟩/\L.x1=⟨(cf.lnk.wkey (aY 1001)).opp,0,0,fun _=>false,fun _=>false,fun _=>false,0,gm (cf.lnk.wkey (aY 1001)).opp,eZ (cf.lnk.wkey (aY 1001)).opp X',[]⟩/\L.keys=1001/\L.v0=[]/\L.v1=[]:=by
 have HLK:=zh (sH cf);have HVL:=zh (fun V=>fX cf.lnk V);rw[decide_eq_true hv]at HVL;obtain⟨ck,hck⟩:∃c,c=cf.lnk.wkey (aY 1001):=⟨_,rfl⟩
 have hd:ck.d=0\/ck.d=1:=by rw[hck];exact hv.2.2.1
 have hv1:ck.Valid:=by rw[hck];exact hv
 have hv2:ck.opp.Valid:=by
  have h:=hv1;unfold ax.Valid ax.opp at *;refine⟨h.1,h.2.1,?_,h.2.2.2⟩;show 1-ck.d=0\/1-ck.d=1;omega
 have hdd:¬ck.d=ck.opp.d:=by show ¬ck.d=1-ck.d;omega
 have HOT:=zh (fun V=>vd ck hd V);have HNS7:=zh (fun V=>jW ck ck.opp hv1 hv2 hdd rfl V);have HNS8:=zh (fun V=>jW ck.opp ck hv2 hv1 (fun e=>hdd e.symm) rfl V);have HSA:Hid ((Tryz.prog.info? 25).map (·.size)=some cf.lnk.arr.toList.length):=zh (by rw[Array.length_toList,ax.arr_size];exact aS);have HSK:Hid ((Tryz.prog.info? 25).map (·.size)=some ck.arr.toList.length):=zh (by rw[Array.length_toList,ax.arr_size];exact aS);have HAZ:Hid (cf.arr.size=39):=zh cf.arr_size;have HBZ:Hid (cf.lnk.arr.size=39):=zh (ax.arr_size _);have HUC:=zh Tryz.underlying25;have HCC:=zh hck;have HCK:=zh (show bI cf.lnk.arr 2 (aj (aY 1001)).toList=ck.arr by rw[hck];exact xj _ _);obtain⟨KA,hKA⟩:∃K,K=aj (aY 1001):=⟨_,rfl⟩
 have HKY:=zh (show ∀(b:Nat) (V:World),ae V b 39 (iQ 1000)->Calls Tryz.prog 12 #[.pointer (some ⟨b,0,none⟩)] V fun e w'=>e=.returned (.agg KA)/\ae w' b 39 (iQ 1001)/\aa (fun k=>k=b) V w' by
  intro b V hB;rw[hKA]
  exact sJ b (iQ 1000) 1000 (by decide) rfl V hB)
 have HKS:=zh (show(Tryz.prog.info? 23).map (·.size)=some KA.size by rw[hKA];kernel_rfl);have HKO:=zh (show KA.all (·.oneCell')=true by rw[hKA];exact lG _);have HK16:=zh (show KA.size=16 by rw[hKA];rfl);rw[<-hKA]at HCK;obtain⟨CA,hCA⟩:=af cf.arr
 obtain⟨CB,hCB⟩:=af cf.lnk.arr
 obtain⟨CK,hCK⟩:∃CB,CB=ck.arr:=⟨_,rfl⟩
 obtain⟨CO,hCO⟩:∃CB,CB=ck.opp.arr:=⟨_,rfl⟩
 rw[<-hCA]at HLK HAZ ⊢;rw[<-hCB]at HLK HVL HSA HBZ HCK;rw[<-hCK]at HCK HOT HNS7 HNS8 HSK;rw[<-hCO]at HOT HNS7 HNS8;clear hCA hCB hCK hCO hKA hv hv1 hv2 hd hdd hck;go_enter Tryz.func6,Tryz.ntmps6;go_upto_region 1 with (fail)
 obtain⟨kb,hkb⟩:=af w.heap.size
 have HKB:=zh hkb;refine ah (fun V=>ae V kb 25 CA/\Below w.heap.size w V) ⟨by rw[hkb];exact ae.new _ _ _,(Below.refl _ w).alloc ay _⟩ ?_;rintro V ⟨b0,b5⟩;rw[<-hkb];have HB0:=zh b0;have HV:=zh b5;have HN:=zh (show ∀j,j < 39->∃v,V.cell? ⟨kb,j,none⟩=some v from fun j hj=>by
  rw[b0.cell]
  exact⟨_,Array.getElem?_eq_getElem (by rw[HAZ.out];exact hj)⟩)
 obtain⟨v5,c5⟩:=HN.out 35 (by decide);obtain⟨v6,c6⟩:=HN.out 36 (by decide);obtain⟨v7,c7⟩:=HN.out 37 (by decide);obtain⟨v8,c8⟩:=HN.out 38 (by decide);have f5:=b0.frozen 35;have f6:=b0.frozen 36;have f7:=b0.frozen 37;have f8:=b0.frozen 38;clear b0 b5 hkb;go_upto_region 2 with (fail)
 refine ah (fun V2=>ae V2 kb 25 CB/\Below w.heap.size w V2) ⟨by have:=(((HB0.out.set_ 35 (.bool false)).set_ 36 (.bool true)).set_ 38 (.int .i64 0)).set_ 37 (.int .i64 0);rw[HLK.out]at this;exact this,(((HV.out.setCell (by show w.heap.size<=kb;have:=HKB.out;omega) _).setCell (by show w.heap.size<=kb;have:=HKB.out;omega) _).setCell (by show w.heap.size<=kb;have:=HKB.out;omega) _).setCell (by show w.heap.size<=kb;have:=HKB.out;omega) _⟩ ?_;rintro V2 ⟨b0,b5⟩;have HB2:=zh b0;have HV2:=zh b5;have R0:=zh (show V2.rangeAt kb 0 CB.toList from fun j y hy=>by rw[b0.cell,Nat.zero_add,<-hy,Array.getElem?_toList]);clear b0 b5 c5 c6 c7 c8 f5 f6 f7 f8 HN;go_upto_region 4 with (first
  | (refine wpList_load_mid rfl 25 _ rfl kb 0 rfl CB.toList _ R0.out HUC.out rfl HSA.out ?_)
  | (go_at_call 7;refine(HVL.out _).mono ?_;rintro e w1 ⟨rfl,hb⟩;have B1:=zh hb;clear hb))
 have HB3:=zh (HB2.out.below B1.out HB2.out.lt);have X1:=zh (HV2.out.trans (B1.out.mono HV2.out.size));go_upto_region 5 with (fail)
 obtain⟨lb,hlb⟩:=af w1.heap.size
 have HLB:=zh hlb;refine ah (fun V3=>ae V3 kb 25 CB/\ae V3 lb 39 (iQ 0)/\Below w.heap.size w V3) ⟨HB3.out.alloc _,by rw[hlb];exact ae.new _ _ _,X1.out.alloc X1.out.size _⟩ ?_;rintro V3 ⟨b0,b1,b2⟩;rw[<-hlb];have c8:V3.cell? ⟨lb,8,none⟩=some (.int .i64 0):=b1.cell 8;have f8:=b1.frozen 8;have HC3:=zh b0;have HL3:=zh b1;have HV3:=zh b2;have HNL:=zh (show ¬kb=lb by have:=HB3.out.lt;omega);clear b0 b1 b2 hlb;go_upto_region 6 with (fail)
 refine ah (fun V4=>ae V4 kb 25 CB/\ae V4 lb 39 (iQ 1000)/\Below w.heap.size w V4) ⟨HC3.out.far (p:=⟨lb,8,none⟩) (by show ¬kb=lb;exact HNL.out) _,HL3.out.set_ 8 _,HV3.out.setCell (by show w.heap.size<=lb;have:=HLB.out;have:=X1.out.size;omega) _⟩ ?_;rintro V4 ⟨b0,b1,b2⟩;have HC4:=zh b0;have HL4:=zh b1;have HV4:=zh b2;clear b0 b1 b2 c8 f8;go_upto_region 7 with (first
  | (go_at_call 12;refine(HKY.out _ _ HL4.out).mono ?_;rintro e w5 ⟨rfl,hb,hk⟩;have HL5:=zh hb;have HK5:=zh hk;have HC5:=zh (hk.blk HC4.out (fun e=>HNL.out e));clear hb hk)
  | (refine wpList_store_mid rfl _ _ _ rfl kb 2 KA rfl rfl (aJ HC5.out 2 KA.size (by rw[HK16.out,HBZ.out];decide)) HKS.out HKO.out ?_))
 have hB6:ae (w5.setCells kb 2 KA.toList) kb 25 CK:=by
  have h:=aP KA.toList 2 w5 _ HC5.out;rw[HCK.out]at h
  exact h
 have hL6:ae (w5.setCells kb 2 KA.toList) lb 39 (iQ 1001):=(bP (F:=fun k=>k=kb) rfl KA.toList 2 w5).blk HL5.out (fun e=>HNL.out e.symm);have hV6:Below w.heap.size w (w5.setCells kb 2 KA.toList):=by
  have hk:=(HK5.out.mono (G:=fun k=>k=lb\/k=kb) (fun k h=>.inl h)).trans ((bP (F:=fun k=>k=kb) rfl KA.toList 2 w5)) (fun k _ h=>.inr h);have h1:=HV4.out;have h2:=HLB.out;have h3:=HKB.out;have h4:=X1.out.size
  exact⟨hk.os.trans h1.os,hk.tape.trans h1.tape,hk.output.trans h1.output,a9 h1.size hk.size,fun i hi=>(hk.block i (by have:=h1.size;omega) (by omega)).trans (h1.block i hi)⟩
 refine ah (fun V6=>an w V6 2 (Bf [bX kb 25 CK,bX lb 39 (iQ 1001)])) (an.blk2 hB6 hL6 (by have:=HKB.out;omega) (by have:=HLB.out;have:=X1.out.size;omega) (fun e=>HNL.out e) hV6) ?_;intro U7 hF7;have HF7:=zh hF7;clear hB6 hL6 hV6 hF7;have HRG:=zh (show ∀W:World,ae W kb 25 CK->W.rangeAt kb 0 CK.toList from fun W b0 j y hy=>by rw[b0.cell,Nat.zero_add,<-hy,Array.getElem?_toList]);have HW0:=zh (HF7.out.below (w':=U7.drew) ((Below.refl _ U7).drew));refine sj (fun a sb g h=>(((((((((a.put (some 24) (.agg CK)).put (some 25) (.agg CK)).put (some 26) (.agg CO)).put (some 27) (.tuple #[.agg #[.pointer (some ⟨g,0,none⟩),.pointer (some ⟨h,0,none⟩)],.int .i64 0])).put (some 23) (.tuple #[.agg #[.pointer (some ⟨g,0,none⟩),.pointer (some ⟨h,0,none⟩)],.int .i64 0])).put (some 28) (.agg #[.pointer (some ⟨g,0,none⟩),.pointer (some ⟨h,0,none⟩)])).put (some 29) (.int .i64 0)).put (some 4) (.pointer (some ⟨sb,0,none⟩))).put (some 5) (.int .i64 0))) (fun sb g h X w'=>an w w' 5 (Bf ([bX kb 25 CK,bX lb 39 (iQ 1001)]++[fN g (gm ck),fP h (eZ ck.opp X) none 0 [],bX sb 34 (ao g h)]))) ?reg ?cont
 case reg=>
  refine wp_region_held_drew (S:=fun w'=>ae w' kb 25 CK) (by kernel_rfl) (HW0.out.blk (i:=0) (by decide) rfl) (fun hHeld=>?_);obtain⟨u0,hu0⟩:=af U7.drew
  rw[<-hu0]at HW0 hHeld ⊢;clear hu0;refine' wpAnyH_take (i:=0) (oi:=⟨some 24,_,_,_,_,_⟩) (v:=_) rfl (by kernel_rfl) (by kernel_rfl) (by kernel_rfl) (fun _ _ _ h=>nomatch h.1) (yieldsIf_load_mid (by rfl) _ _ rfl kb 0 rfl CK.toList _ (fun w h=>HRG.out w h) HUC.out rfl HSK.out) (by assumption) ?_
  try simp only[Act.put,qa,qb,qc]
  refine' wpAnyH_take (i:=1) (oi:=⟨some 25,_,_,_,_,_⟩) (v:=_) rfl (by kernel_rfl) (by kernel_rfl) (by kernel_rfl) (fun _ _ _ h=>nomatch h.1) (yieldsIf_load_mid (by rfl) _ _ rfl kb 0 rfl CK.toList _ (fun w h=>HRG.out w h) HUC.out rfl HSK.out) (by assumption) ?_
  try simp only[Act.put,qa,qb,qc]
  refine wpAnyH_ready (rs:=[2,7]) (by kernel_rfl) (by simp) ?_;refine AllReadyH.cons (o:=⟨some 26,_,_,_,_,_⟩) rfl (fun K hK=>?_) (AllReadyH.cons (o:=⟨some 4,_,_,_,_,_⟩) rfl (fun K hK=>?_) AllReadyH.nil)
  ·skip;rw[if_pos (by rfl)];go_simp;refine(HOT.out _).mono ?_;rintro e u1 ⟨rfl,hb⟩;dsimp only;have HW1:=zh (HW0.out.below hb);clear hb;refine hK.out _ _ (HW1.out.blk (i:=0) (by decide) rfl) (fun hHeld=>?_);clear hK K
   try simp only[Act.put,qa,qb,qc]
   refine wpAnyH_ready (rs:=[3,7]) (by kernel_rfl) (by simp) ?_;refine AllReadyH.cons (o:=⟨some 27,_,_,_,_,_⟩) rfl (fun K hK=>?_) (AllReadyH.cons (o:=⟨some 4,_,_,_,_,_⟩) rfl (fun K hK=>?_) AllReadyH.nil)
   ·skip;rw[if_pos (by rfl)];go_simp;refine(HNS7.out _).mono ?_;rintro e u2 ⟨g,h,X,rfl,hS,hb⟩;dsimp only;have HW2:=zh (cP.new HW1.out hb hS);clear hS hb;unfold ao;refine hK.out _ _ (HW2.out.blk (i:=0) (by decide) rfl) (fun hHeld=>?_);clear hK K
    try simp only[Act.put,qa,qb,qc]
    refine wpAnyH_take (i:=4) (oi:=⟨some 23,_,_,_,_,_⟩) (v:=.tuple #[.agg #[.pointer (some ⟨g,0,none⟩),.pointer (some ⟨h,0,none⟩)],.int .i64 0]) rfl (by kernel_rfl) (by kernel_rfl) (by kernel_rfl) (fun _ _ _ h=>nomatch h.1) (Or.inl ⟨by rfl,fun W hW=>(by rfl)⟩) (by assumption) ?_
    try simp only[Act.put,qa,qb,qc]
    refine wpAnyH_take (i:=5) (oi:=⟨some 28,_,_,_,_,_⟩) (v:=.agg #[.pointer (some ⟨g,0,none⟩),.pointer (some ⟨h,0,none⟩)]) rfl (by kernel_rfl) (by kernel_rfl) (by kernel_rfl) (fun _ _ _ h=>nomatch h.1) (Or.inl ⟨by rfl,fun W hW=>(by go_simp)⟩) (by assumption) ?_
    try simp only[Act.put,qa,qb,qc]
    refine wpAnyH_take (i:=6) (oi:=⟨some 29,_,_,_,_,_⟩) (v:=.int .i64 0) rfl (by kernel_rfl) (by kernel_rfl) (by kernel_rfl) (fun _ _ _ h=>nomatch h.1) (Or.inl ⟨by rfl,fun W hW=>(by go_simp)⟩) (by assumption) ?_
    try simp only[Act.put,qa,qb,qc]
    refine aL (i:=7) (x:=some 4) rfl fun K hK=>?_;go_simp;obtain⟨u3,hu3⟩:∃v,v=u2.alloc (.cells #[.pointer none,.pointer none] 34):=⟨_,rfl⟩
    have HW3:=zh (an.newBlk HW2.out 34 #[.pointer none,.pointer none]);obtain⟨sb,hsb⟩:∃v,v=u2.heap.size:=⟨_,rfl⟩
    rw[<-hu3]at HW3 ⊢;rw[<-hsb]at HW3 ⊢;clear hu3 hsb;refine hK.out _ _ (HW3.out.blk (i:=0) (by decide) rfl) (fun hHeld=>?_);clear hK K
    try simp only[Act.put,qa,qb,qc]
    refine aL (i:=8) (x:=none) rfl fun K hK=>?_;have HBS:=zh (an.blk (i:=4) HW3.out (by decide) rfl);refine wp_store_mid _ _ _ rfl sb 0 (ao g h) rfl rfl (aJ HBS.out 0 2 (by decide)) (aW g h) (cv g h) ?_;have HWZ:=zh (an.putRow (i:=4) HW3.out (by decide) rfl 0 (ao g h).toList);obtain⟨uz,huz⟩:∃v,v=u3.setCells sb 0 (ao g h).toList:=⟨_,rfl⟩
    rw[<-huz]at HWZ ⊢;clear huz;refine hK.out _ _ (HWZ.out.blk (i:=0) (by decide) rfl) (fun hHeld=>?_);clear hK K
    try simp only[Act.put,qa,qb,qc]
    refine wpAnyH_take (i:=9) (oi:=⟨some 5,_,_,_,_,_⟩) (v:=.int .i64 0) rfl (by kernel_rfl) (by kernel_rfl) (by kernel_rfl) (fun _ _ _ h=>nomatch h.1) (Or.inl ⟨by rfl,fun W hW=>(by rfl)⟩) (by assumption) ?_
    try simp only[Act.put,qa,qb,qc]
    refine wpAnyH_done (by kernel_rfl) ?_ _;refine⟨rfl,sb,g,h,X,rfl,HWZ.out.perm (fun i=>([0,1,2,3,4]:List Nat).getD i 0) (fun i hi=>?_) (fun i j hi hj hij=>?_) _ (fun i hi=>?_)⟩
    ·revert hi;revert i;decide
    ·exact(show ∀i,i < 5->∀j,j < 5->i ≠ j->([0,1,2,3,4]:List Nat).getD i 0 ≠ ([0,1,2,3,4]:List Nat).getD j 0 by decide) i hi j hj hij
    ·rcases (by omega:i=0\/i=1\/i=2\/i=3\/i=4)with rfl | rfl | rfl | rfl | rfl<;>rfl
   ·skip;rw[if_pos (by rfl)];go_simp;obtain⟨u2,hu2⟩:∃v,v=u1.alloc (.cells #[.pointer none,.pointer none] 34):=⟨_,rfl⟩
    have HW2:=zh (an.newBlk HW1.out 34 #[.pointer none,.pointer none]);obtain⟨sb,hsb⟩:∃v,v=u1.heap.size:=⟨_,rfl⟩
    rw[<-hu2]at HW2 ⊢;rw[<-hsb]at HW2 ⊢;clear hu2 hsb;refine hK.out _ _ (HW2.out.blk (i:=0) (by decide) rfl) (fun hHeld=>?_);clear hK K
    try simp only[Act.put,qa,qb,qc]
    refine aL (i:=3) (x:=some 27) rfl fun K hK=>?_;go_simp;refine(HNS7.out _).mono ?_;rintro e u3 ⟨g,h,X,rfl,hS,hb⟩;dsimp only;have HW3:=zh (cP.new HW2.out hb hS);clear hS hb;unfold ao;refine hK.out _ _ (HW3.out.blk (i:=0) (by decide) rfl) (fun hHeld=>?_);clear hK K
    try simp only[Act.put,qa,qb,qc]
    refine wpAnyH_take (i:=4) (oi:=⟨some 23,_,_,_,_,_⟩) (v:=.tuple #[.agg #[.pointer (some ⟨g,0,none⟩),.pointer (some ⟨h,0,none⟩)],.int .i64 0]) rfl (by kernel_rfl) (by kernel_rfl) (by kernel_rfl) (fun _ _ _ h=>nomatch h.1) (Or.inl ⟨by rfl,fun W hW=>(by rfl)⟩) (by assumption) ?_
    try simp only[Act.put,qa,qb,qc]
    refine wpAnyH_take (i:=5) (oi:=⟨some 28,_,_,_,_,_⟩) (v:=.agg #[.pointer (some ⟨g,0,none⟩),.pointer (some ⟨h,0,none⟩)]) rfl (by kernel_rfl) (by kernel_rfl) (by kernel_rfl) (fun _ _ _ h=>nomatch h.1) (Or.inl ⟨by rfl,fun W hW=>(by go_simp)⟩) (by assumption) ?_
    try simp only[Act.put,qa,qb,qc]
    refine wpAnyH_take (i:=6) (oi:=⟨some 29,_,_,_,_,_⟩) (v:=.int .i64 0) rfl (by kernel_rfl) (by kernel_rfl) (by kernel_rfl) (fun _ _ _ h=>nomatch h.1) (Or.inl ⟨by rfl,fun W hW=>(by go_simp)⟩) (by assumption) ?_
    try simp only[Act.put,qa,qb,qc]
    refine aL (i:=8) (x:=none) rfl fun K hK=>?_;have HBS:=zh (an.blk (i:=2) HW3.out (by decide) rfl);refine wp_store_mid _ _ _ rfl sb 0 (ao g h) rfl rfl (aJ HBS.out 0 2 (by decide)) (aW g h) (cv g h) ?_;have HWZ:=zh (an.putRow (i:=2) HW3.out (by decide) rfl 0 (ao g h).toList);obtain⟨uz,huz⟩:∃v,v=u3.setCells sb 0 (ao g h).toList:=⟨_,rfl⟩
    rw[<-huz]at HWZ ⊢;clear huz;refine hK.out _ _ (HWZ.out.blk (i:=0) (by decide) rfl) (fun hHeld=>?_);clear hK K
    try simp only[Act.put,qa,qb,qc]
    refine wpAnyH_take (i:=9) (oi:=⟨some 5,_,_,_,_,_⟩) (v:=.int .i64 0) rfl (by kernel_rfl) (by kernel_rfl) (by kernel_rfl) (fun _ _ _ h=>nomatch h.1) (Or.inl ⟨by rfl,fun W hW=>(by rfl)⟩) (by assumption) ?_
    try simp only[Act.put,qa,qb,qc]
    refine wpAnyH_done (by kernel_rfl) ?_ _;refine⟨rfl,sb,g,h,X,rfl,HWZ.out.perm (fun i=>([0,1,3,4,2]:List Nat).getD i 0) (fun i hi=>?_) (fun i j hi hj hij=>?_) _ (fun i hi=>?_)⟩
    ·revert hi;revert i;decide
    ·exact(show ∀i,i < 5->∀j,j < 5->i ≠ j->([0,1,3,4,2]:List Nat).getD i 0 ≠ ([0,1,3,4,2]:List Nat).getD j 0 by decide) i hi j hj hij
    ·rcases (by omega:i=0\/i=1\/i=2\/i=3\/i=4)with rfl | rfl | rfl | rfl | rfl<;>rfl
  ·skip;rw[if_pos (by rfl)];go_simp;obtain⟨u1,hu1⟩:∃v,v=u0.alloc (.cells #[.pointer none,.pointer none] 34):=⟨_,rfl⟩
   have HW1:=zh (an.newBlk HW0.out 34 #[.pointer none,.pointer none]);obtain⟨sb,hsb⟩:∃v,v=u0.heap.size:=⟨_,rfl⟩
   rw[<-hu1]at HW1 ⊢;rw[<-hsb]at HW1 ⊢;clear hu1 hsb;refine hK.out _ _ (HW1.out.blk (i:=0) (by decide) rfl) (fun hHeld=>?_);clear hK K
   try simp only[Act.put,qa,qb,qc]
   refine aL (i:=2) (x:=some 26) rfl fun K hK=>?_;go_simp;refine(HOT.out _).mono ?_;rintro e u2 ⟨rfl,hb⟩;dsimp only;have HW2:=zh (HW1.out.below hb);clear hb;refine hK.out _ _ (HW2.out.blk (i:=0) (by decide) rfl) (fun hHeld=>?_);clear hK K
   try simp only[Act.put,qa,qb,qc]
   refine aL (i:=3) (x:=some 27) rfl fun K hK=>?_;go_simp;refine(HNS7.out _).mono ?_;rintro e u3 ⟨g,h,X,rfl,hS,hb⟩;dsimp only;have HW3:=zh (cP.new HW2.out hb hS);clear hS hb;unfold ao;refine hK.out _ _ (HW3.out.blk (i:=0) (by decide) rfl) (fun hHeld=>?_);clear hK K
   try simp only[Act.put,qa,qb,qc]
   refine wpAnyH_take (i:=4) (oi:=⟨some 23,_,_,_,_,_⟩) (v:=.tuple #[.agg #[.pointer (some ⟨g,0,none⟩),.pointer (some ⟨h,0,none⟩)],.int .i64 0]) rfl (by kernel_rfl) (by kernel_rfl) (by kernel_rfl) (fun _ _ _ h=>nomatch h.1) (Or.inl ⟨by rfl,fun W hW=>(by rfl)⟩) (by assumption) ?_
   try simp only[Act.put,qa,qb,qc]
   refine wpAnyH_take (i:=5) (oi:=⟨some 28,_,_,_,_,_⟩) (v:=.agg #[.pointer (some ⟨g,0,none⟩),.pointer (some ⟨h,0,none⟩)]) rfl (by kernel_rfl) (by kernel_rfl) (by kernel_rfl) (fun _ _ _ h=>nomatch h.1) (Or.inl ⟨by rfl,fun W hW=>(by go_simp)⟩) (by assumption) ?_
   try simp only[Act.put,qa,qb,qc]
   refine wpAnyH_take (i:=6) (oi:=⟨some 29,_,_,_,_,_⟩) (v:=.int .i64 0) rfl (by kernel_rfl) (by kernel_rfl) (by kernel_rfl) (fun _ _ _ h=>nomatch h.1) (Or.inl ⟨by rfl,fun W hW=>(by go_simp)⟩) (by assumption) ?_
   try simp only[Act.put,qa,qb,qc]
   refine aL (i:=8) (x:=none) rfl fun K hK=>?_;have HBS:=zh (an.blk (i:=2) HW3.out (by decide) rfl);refine wp_store_mid _ _ _ rfl sb 0 (ao g h) rfl rfl (aJ HBS.out 0 2 (by decide)) (aW g h) (cv g h) ?_;have HWZ:=zh (an.putRow (i:=2) HW3.out (by decide) rfl 0 (ao g h).toList);obtain⟨uz,huz⟩:∃v,v=u3.setCells sb 0 (ao g h).toList:=⟨_,rfl⟩
   rw[<-huz]at HWZ ⊢;clear huz;refine hK.out _ _ (HWZ.out.blk (i:=0) (by decide) rfl) (fun hHeld=>?_);clear hK K
   try simp only[Act.put,qa,qb,qc]
   refine wpAnyH_take (i:=9) (oi:=⟨some 5,_,_,_,_,_⟩) (v:=.int .i64 0) rfl (by kernel_rfl) (by kernel_rfl) (by kernel_rfl) (fun _ _ _ h=>nomatch h.1) (Or.inl ⟨by rfl,fun W hW=>(by rfl)⟩) (by assumption) ?_
   try simp only[Act.put,qa,qb,qc]
   refine wpAnyH_done (by kernel_rfl) ?_ _;refine⟨rfl,sb,g,h,X,rfl,HWZ.out.perm (fun i=>([0,1,3,4,2]:List Nat).getD i 0) (fun i hi=>?_) (fun i j hi hj hij=>?_) _ (fun i hi=>?_)⟩
   ·revert hi;revert i;decide
   ·exact(show ∀i,i < 5->∀j,j < 5->i ≠ j->([0,1,3,4,2]:List Nat).getD i 0 ≠ ([0,1,3,4,2]:List Nat).getD j 0 by decide) i hi j hj hij
   ·rcases (by omega:i=0\/i=1\/i=2\/i=3\/i=4)with rfl | rfl | rfl | rfl | rfl<;>rfl
 case cont=>
  intro sb1 g1 h1 X1' U8 hF8;have HF8:=zh hF8;clear hF8
  try simp only[Act.put,qa,qb,qc]
  go_upto_region 8 with (fail)
  have HW0:=zh (HF8.out.below (w':=U8.drew) ((Below.refl _ U8).drew));refine sj (fun a sb g h=>(((((((((a.put (some 31) (.agg CK)).put (some 33) (.agg CK)).put (some 32) (.agg CO)).put (some 34) (.tuple #[.agg #[.pointer (some ⟨g,0,none⟩),.pointer (some ⟨h,0,none⟩)],.int .i64 0])).put (some 30) (.tuple #[.agg #[.pointer (some ⟨g,0,none⟩),.pointer (some ⟨h,0,none⟩)],.int .i64 0])).put (some 35) (.agg #[.pointer (some ⟨g,0,none⟩),.pointer (some ⟨h,0,none⟩)])).put (some 36) (.int .i64 0)).put (some 6) (.pointer (some ⟨sb,0,none⟩))).put (some 7) (.int .i64 0))) (fun sb g h X w'=>an w w' 8 (Bf ([bX kb 25 CK,bX lb 39 (iQ 1001),fN g1 (gm ck),fP h1 (eZ ck.opp X1') none 0 [],bX sb1 34 (ao g1 h1)]++[fN g (gm ck.opp),fP h (eZ ck X) none 0 [],bX sb 34 (ao g h)]))) ?reg ?cont
  case reg=>
   refine wp_region_held_drew (S:=fun w'=>ae w' kb 25 CK) (by kernel_rfl) (HW0.out.blk (i:=0) (by decide) rfl) (fun hHeld=>?_);obtain⟨u0,hu0⟩:=af U8.drew
   rw[<-hu0]at HW0 hHeld ⊢;clear hu0;refine' wpAnyH_take (i:=0) (oi:=⟨some 31,_,_,_,_,_⟩) (v:=_) rfl (by kernel_rfl) (by kernel_rfl) (by kernel_rfl) (fun _ _ _ h=>nomatch h.1) (yieldsIf_load_mid (by rfl) _ _ rfl kb 0 rfl CK.toList _ (fun w h=>HRG.out w h) HUC.out rfl HSK.out) (by assumption) ?_
   try simp only[Act.put,qa,qb,qc]
   refine' wpAnyH_take (i:=2) (oi:=⟨some 33,_,_,_,_,_⟩) (v:=_) rfl (by kernel_rfl) (by kernel_rfl) (by kernel_rfl) (fun _ _ _ h=>nomatch h.1) (yieldsIf_load_mid (by rfl) _ _ rfl kb 0 rfl CK.toList _ (fun w h=>HRG.out w h) HUC.out rfl HSK.out) (by assumption) ?_
   try simp only[Act.put,qa,qb,qc]
   refine wpAnyH_ready (rs:=[1,7]) (by kernel_rfl) (by simp) ?_;refine AllReadyH.cons (o:=⟨some 32,_,_,_,_,_⟩) rfl (fun K hK=>?_) (AllReadyH.cons (o:=⟨some 6,_,_,_,_,_⟩) rfl (fun K hK=>?_) AllReadyH.nil)
   ·skip;rw[if_pos (by rfl)];go_simp;refine(HOT.out _).mono ?_;rintro e u1 ⟨rfl,hb⟩;dsimp only;have HW1:=zh (HW0.out.below hb);clear hb;refine hK.out _ _ (HW1.out.blk (i:=0) (by decide) rfl) (fun hHeld=>?_);clear hK K
    try simp only[Act.put,qa,qb,qc]
    refine wpAnyH_ready (rs:=[3,7]) (by kernel_rfl) (by simp) ?_;refine AllReadyH.cons (o:=⟨some 34,_,_,_,_,_⟩) rfl (fun K hK=>?_) (AllReadyH.cons (o:=⟨some 6,_,_,_,_,_⟩) rfl (fun K hK=>?_) AllReadyH.nil)
    ·skip;rw[if_pos (by rfl)];go_simp;refine(HNS8.out _).mono ?_;rintro e u2 ⟨g,h,X,rfl,hS,hb⟩;dsimp only;have HW2:=zh (cP.new HW1.out hb hS);clear hS hb;unfold ao;refine hK.out _ _ (HW2.out.blk (i:=0) (by decide) rfl) (fun hHeld=>?_);clear hK K
     try simp only[Act.put,qa,qb,qc]
     refine wpAnyH_take (i:=4) (oi:=⟨some 30,_,_,_,_,_⟩) (v:=.tuple #[.agg #[.pointer (some ⟨g,0,none⟩),.pointer (some ⟨h,0,none⟩)],.int .i64 0]) rfl (by kernel_rfl) (by kernel_rfl) (by kernel_rfl) (fun _ _ _ h=>nomatch h.1) (Or.inl ⟨by rfl,fun W hW=>(by rfl)⟩) (by assumption) ?_
     try simp only[Act.put,qa,qb,qc]
     refine wpAnyH_take (i:=5) (oi:=⟨some 35,_,_,_,_,_⟩) (v:=.agg #[.pointer (some ⟨g,0,none⟩),.pointer (some ⟨h,0,none⟩)]) rfl (by kernel_rfl) (by kernel_rfl) (by kernel_rfl) (fun _ _ _ h=>nomatch h.1) (Or.inl ⟨by rfl,fun W hW=>(by go_simp)⟩) (by assumption) ?_
     try simp only[Act.put,qa,qb,qc]
     refine wpAnyH_take (i:=6) (oi:=⟨some 36,_,_,_,_,_⟩) (v:=.int .i64 0) rfl (by kernel_rfl) (by kernel_rfl) (by kernel_rfl) (fun _ _ _ h=>nomatch h.1) (Or.inl ⟨by rfl,fun W hW=>(by go_simp)⟩) (by assumption) ?_
     try simp only[Act.put,qa,qb,qc]
     refine aL (i:=7) (x:=some 6) rfl fun K hK=>?_;go_simp;obtain⟨u3,hu3⟩:∃v,v=u2.alloc (.cells #[.pointer none,.pointer none] 34):=⟨_,rfl⟩
     have HW3:=zh (an.newBlk HW2.out 34 #[.pointer none,.pointer none]);obtain⟨sb,hsb⟩:∃v,v=u2.heap.size:=⟨_,rfl⟩
     rw[<-hu3]at HW3 ⊢;rw[<-hsb]at HW3 ⊢;clear hu3 hsb;refine hK.out _ _ (HW3.out.blk (i:=0) (by decide) rfl) (fun hHeld=>?_);clear hK K
     try simp only[Act.put,qa,qb,qc]
     refine aL (i:=8) (x:=none) rfl fun K hK=>?_;have HBS:=zh (an.blk (i:=7) HW3.out (by decide) rfl);refine wp_store_mid _ _ _ rfl sb 0 (ao g h) rfl rfl (aJ HBS.out 0 2 (by decide)) (aW g h) (cv g h) ?_;have HWZ:=zh (an.putRow (i:=7) HW3.out (by decide) rfl 0 (ao g h).toList);obtain⟨uz,huz⟩:∃v,v=u3.setCells sb 0 (ao g h).toList:=⟨_,rfl⟩
     rw[<-huz]at HWZ ⊢;clear huz;refine hK.out _ _ (HWZ.out.blk (i:=0) (by decide) rfl) (fun hHeld=>?_);clear hK K
     try simp only[Act.put,qa,qb,qc]
     refine wpAnyH_take (i:=9) (oi:=⟨some 7,_,_,_,_,_⟩) (v:=.int .i64 0) rfl (by kernel_rfl) (by kernel_rfl) (by kernel_rfl) (fun _ _ _ h=>nomatch h.1) (Or.inl ⟨by rfl,fun W hW=>(by rfl)⟩) (by assumption) ?_
     try simp only[Act.put,qa,qb,qc]
     refine wpAnyH_done (by kernel_rfl) ?_ _;refine⟨rfl,sb,g,h,X,rfl,HWZ.out.perm (fun i=>([0,1,2,3,4,5,6,7]:List Nat).getD i 0) (fun i hi=>?_) (fun i j hi hj hij=>?_) _ (fun i hi=>?_)⟩
     ·revert hi;revert i;decide
     ·exact(show ∀i,i < 8->∀j,j < 8->i ≠ j->([0,1,2,3,4,5,6,7]:List Nat).getD i 0 ≠ ([0,1,2,3,4,5,6,7]:List Nat).getD j 0 by decide) i hi j hj hij
     ·rcases (by omega:i=0\/i=1\/i=2\/i=3\/i=4\/i=5\/i=6\/i=7)with rfl | rfl | rfl | rfl | rfl | rfl | rfl | rfl<;>rfl
    ·skip;rw[if_pos (by rfl)];go_simp;obtain⟨u2,hu2⟩:∃v,v=u1.alloc (.cells #[.pointer none,.pointer none] 34):=⟨_,rfl⟩
     have HW2:=zh (an.newBlk HW1.out 34 #[.pointer none,.pointer none]);obtain⟨sb,hsb⟩:∃v,v=u1.heap.size:=⟨_,rfl⟩
     rw[<-hu2]at HW2 ⊢;rw[<-hsb]at HW2 ⊢;clear hu2 hsb;refine hK.out _ _ (HW2.out.blk (i:=0) (by decide) rfl) (fun hHeld=>?_);clear hK K
     try simp only[Act.put,qa,qb,qc]
     refine aL (i:=3) (x:=some 34) rfl fun K hK=>?_;go_simp;refine(HNS8.out _).mono ?_;rintro e u3 ⟨g,h,X,rfl,hS,hb⟩;dsimp only;have HW3:=zh (cP.new HW2.out hb hS);clear hS hb;unfold ao;refine hK.out _ _ (HW3.out.blk (i:=0) (by decide) rfl) (fun hHeld=>?_);clear hK K
     try simp only[Act.put,qa,qb,qc]
     refine wpAnyH_take (i:=4) (oi:=⟨some 30,_,_,_,_,_⟩) (v:=.tuple #[.agg #[.pointer (some ⟨g,0,none⟩),.pointer (some ⟨h,0,none⟩)],.int .i64 0]) rfl (by kernel_rfl) (by kernel_rfl) (by kernel_rfl) (fun _ _ _ h=>nomatch h.1) (Or.inl ⟨by rfl,fun W hW=>(by rfl)⟩) (by assumption) ?_
     try simp only[Act.put,qa,qb,qc]
     refine wpAnyH_take (i:=5) (oi:=⟨some 35,_,_,_,_,_⟩) (v:=.agg #[.pointer (some ⟨g,0,none⟩),.pointer (some ⟨h,0,none⟩)]) rfl (by kernel_rfl) (by kernel_rfl) (by kernel_rfl) (fun _ _ _ h=>nomatch h.1) (Or.inl ⟨by rfl,fun W hW=>(by go_simp)⟩) (by assumption) ?_
     try simp only[Act.put,qa,qb,qc]
     refine wpAnyH_take (i:=6) (oi:=⟨some 36,_,_,_,_,_⟩) (v:=.int .i64 0) rfl (by kernel_rfl) (by kernel_rfl) (by kernel_rfl) (fun _ _ _ h=>nomatch h.1) (Or.inl ⟨by rfl,fun W hW=>(by go_simp)⟩) (by assumption) ?_
     try simp only[Act.put,qa,qb,qc]
     refine aL (i:=8) (x:=none) rfl fun K hK=>?_;have HBS:=zh (an.blk (i:=5) HW3.out (by decide) rfl);refine wp_store_mid _ _ _ rfl sb 0 (ao g h) rfl rfl (aJ HBS.out 0 2 (by decide)) (aW g h) (cv g h) ?_;have HWZ:=zh (an.putRow (i:=5) HW3.out (by decide) rfl 0 (ao g h).toList);obtain⟨uz,huz⟩:∃v,v=u3.setCells sb 0 (ao g h).toList:=⟨_,rfl⟩
     rw[<-huz]at HWZ ⊢;clear huz;refine hK.out _ _ (HWZ.out.blk (i:=0) (by decide) rfl) (fun hHeld=>?_);clear hK K
     try simp only[Act.put,qa,qb,qc]
     refine wpAnyH_take (i:=9) (oi:=⟨some 7,_,_,_,_,_⟩) (v:=.int .i64 0) rfl (by kernel_rfl) (by kernel_rfl) (by kernel_rfl) (fun _ _ _ h=>nomatch h.1) (Or.inl ⟨by rfl,fun W hW=>(by rfl)⟩) (by assumption) ?_
     try simp only[Act.put,qa,qb,qc]
     refine wpAnyH_done (by kernel_rfl) ?_ _;refine⟨rfl,sb,g,h,X,rfl,HWZ.out.perm (fun i=>([0,1,2,3,4,6,7,5]:List Nat).getD i 0) (fun i hi=>?_) (fun i j hi hj hij=>?_) _ (fun i hi=>?_)⟩
     ·revert hi;revert i;decide
     ·exact(show ∀i,i < 8->∀j,j < 8->i ≠ j->([0,1,2,3,4,6,7,5]:List Nat).getD i 0 ≠ ([0,1,2,3,4,6,7,5]:List Nat).getD j 0 by decide) i hi j hj hij
     ·rcases (by omega:i=0\/i=1\/i=2\/i=3\/i=4\/i=5\/i=6\/i=7)with rfl | rfl | rfl | rfl | rfl | rfl | rfl | rfl<;>rfl
   ·skip;rw[if_pos (by rfl)];go_simp;obtain⟨u1,hu1⟩:∃v,v=u0.alloc (.cells #[.pointer none,.pointer none] 34):=⟨_,rfl⟩
    have HW1:=zh (an.newBlk HW0.out 34 #[.pointer none,.pointer none]);obtain⟨sb,hsb⟩:∃v,v=u0.heap.size:=⟨_,rfl⟩
    rw[<-hu1]at HW1 ⊢;rw[<-hsb]at HW1 ⊢;clear hu1 hsb;refine hK.out _ _ (HW1.out.blk (i:=0) (by decide) rfl) (fun hHeld=>?_);clear hK K
    try simp only[Act.put,qa,qb,qc]
    refine aL (i:=1) (x:=some 32) rfl fun K hK=>?_;go_simp;refine(HOT.out _).mono ?_;rintro e u2 ⟨rfl,hb⟩;dsimp only;have HW2:=zh (HW1.out.below hb);clear hb;refine hK.out _ _ (HW2.out.blk (i:=0) (by decide) rfl) (fun hHeld=>?_);clear hK K
    try simp only[Act.put,qa,qb,qc]
    refine aL (i:=3) (x:=some 34) rfl fun K hK=>?_;go_simp;refine(HNS8.out _).mono ?_;rintro e u3 ⟨g,h,X,rfl,hS,hb⟩;dsimp only;have HW3:=zh (cP.new HW2.out hb hS);clear hS hb;unfold ao;refine hK.out _ _ (HW3.out.blk (i:=0) (by decide) rfl) (fun hHeld=>?_);clear hK K
    try simp only[Act.put,qa,qb,qc]
    refine wpAnyH_take (i:=4) (oi:=⟨some 30,_,_,_,_,_⟩) (v:=.tuple #[.agg #[.pointer (some ⟨g,0,none⟩),.pointer (some ⟨h,0,none⟩)],.int .i64 0]) rfl (by kernel_rfl) (by kernel_rfl) (by kernel_rfl) (fun _ _ _ h=>nomatch h.1) (Or.inl ⟨by rfl,fun W hW=>(by rfl)⟩) (by assumption) ?_
    try simp only[Act.put,qa,qb,qc]
    refine wpAnyH_take (i:=5) (oi:=⟨some 35,_,_,_,_,_⟩) (v:=.agg #[.pointer (some ⟨g,0,none⟩),.pointer (some ⟨h,0,none⟩)]) rfl (by kernel_rfl) (by kernel_rfl) (by kernel_rfl) (fun _ _ _ h=>nomatch h.1) (Or.inl ⟨by rfl,fun W hW=>(by go_simp)⟩) (by assumption) ?_
    try simp only[Act.put,qa,qb,qc]
    refine wpAnyH_take (i:=6) (oi:=⟨some 36,_,_,_,_,_⟩) (v:=.int .i64 0) rfl (by kernel_rfl) (by kernel_rfl) (by kernel_rfl) (fun _ _ _ h=>nomatch h.1) (Or.inl ⟨by rfl,fun W hW=>(by go_simp)⟩) (by assumption) ?_
    try simp only[Act.put,qa,qb,qc]
    refine aL (i:=8) (x:=none) rfl fun K hK=>?_;have HBS:=zh (an.blk (i:=5) HW3.out (by decide) rfl);refine wp_store_mid _ _ _ rfl sb 0 (ao g h) rfl rfl (aJ HBS.out 0 2 (by decide)) (aW g h) (cv g h) ?_;have HWZ:=zh (an.putRow (i:=5) HW3.out (by decide) rfl 0 (ao g h).toList);obtain⟨uz,huz⟩:∃v,v=u3.setCells sb 0 (ao g h).toList:=⟨_,rfl⟩
    rw[<-huz]at HWZ ⊢;clear huz;refine hK.out _ _ (HWZ.out.blk (i:=0) (by decide) rfl) (fun hHeld=>?_);clear hK K
    try simp only[Act.put,qa,qb,qc]
    refine wpAnyH_take (i:=9) (oi:=⟨some 7,_,_,_,_,_⟩) (v:=.int .i64 0) rfl (by kernel_rfl) (by kernel_rfl) (by kernel_rfl) (fun _ _ _ h=>nomatch h.1) (Or.inl ⟨by rfl,fun W hW=>(by rfl)⟩) (by assumption) ?_
    try simp only[Act.put,qa,qb,qc]
    refine wpAnyH_done (by kernel_rfl) ?_ _;refine⟨rfl,sb,g,h,X,rfl,HWZ.out.perm (fun i=>([0,1,2,3,4,6,7,5]:List Nat).getD i 0) (fun i hi=>?_) (fun i j hi hj hij=>?_) _ (fun i hi=>?_)⟩
    ·revert hi;revert i;decide
    ·exact(show ∀i,i < 8->∀j,j < 8->i ≠ j->([0,1,2,3,4,6,7,5]:List Nat).getD i 0 ≠ ([0,1,2,3,4,6,7,5]:List Nat).getD j 0 by decide) i hi j hj hij
    ·rcases (by omega:i=0\/i=1\/i=2\/i=3\/i=4\/i=5\/i=6\/i=7)with rfl | rfl | rfl | rfl | rfl | rfl | rfl | rfl<;>rfl
  case cont=>
   intro sb2 g2 h2 X2' U9 hF9;have HF9:=zh hF9;clear hF9
   try simp only[Act.put,qa,qb,qc]
   have HS1:=zh (an.blk (i:=4) HF9.out (by decide) rfl);have HS2:=zh (an.blk (i:=7) HF9.out (by decide) rfl);have HLZ:=zh (an.blk (i:=1) HF9.out (by decide) rfl);have HR1:=zh (show U9.rangeAt sb1 0 [.pointer (some ⟨g1,0,none⟩),.pointer (some ⟨h1,0,none⟩)]from fun j y hy=>by rw[HS1.out.cell,Nat.zero_add,<-Array.getElem?_toList];exact hy);have HR2:=zh (show U9.rangeAt sb2 0 [.pointer (some ⟨g2,0,none⟩),.pointer (some ⟨h2,0,none⟩)]from fun j y hy=>by rw[HS2.out.cell,Nat.zero_add,<-Array.getElem?_toList];exact hy);have HUS:=zh Tryz.underlying34;have HI35:=zh (show(Tryz.prog.info? 35).map (·.size)=some (#[.pointer (some ⟨g1,0,none⟩),.pointer (some ⟨h1,0,none⟩),.pointer (some ⟨g2,0,none⟩),.pointer (some ⟨h2,0,none⟩)]:Array Value).size by kernel_rfl);have HO35:=zh (show(#[.pointer (some ⟨g1,0,none⟩),.pointer (some ⟨h1,0,none⟩),.pointer (some ⟨g2,0,none⟩),.pointer (some ⟨h2,0,none⟩)]:Array Value).all (·.oneCell')=true by kernel_rfl);go_wp2_with (first
    | (refine wpList_load_mid rfl 34 _ rfl sb1 0 rfl [.pointer (some ⟨g1,0,none⟩),.pointer (some ⟨h1,0,none⟩)] _ HR1.out HUS.out rfl (aW g1 h1) ?_)
    | (refine wpList_load_mid rfl 34 _ rfl sb2 0 rfl [.pointer (some ⟨g2,0,none⟩),.pointer (some ⟨h2,0,none⟩)] _ HR2.out HUS.out rfl (aW g2 h2) ?_)
    | (refine wpList_store_mid rfl _ _ _ rfl lb 0 #[.pointer (some ⟨g1,0,none⟩),.pointer (some ⟨h1,0,none⟩),.pointer (some ⟨g2,0,none⟩),.pointer (some ⟨h2,0,none⟩)] rfl rfl (aJ HLZ.out 0 4 (by decide)) HI35.out HO35.out ?_))
   go_ret;rw[<-HCC.out];have h10:=((an.putRow (i:=1) HF9.out (by decide) rfl 0 [.pointer (some ⟨g1,0,none⟩),.pointer (some ⟨h1,0,none⟩),.pointer (some ⟨g2,0,none⟩),.pointer (some ⟨h2,0,none⟩)]).new_ (Below.refl _ _) (og _) (fun k hk=>hk.elim)).new_ (Below.refl _ _) (og _) (fun k hk=>hk.elim);refine⟨lb,⟨⟨ck,0,0,fun _=>false,fun _=>false,fun _=>false,0,gm ck,eZ ck X2',[]⟩,⟨ck.opp,0,0,fun _=>false,fun _=>false,fun _=>false,0,gm ck.opp,eZ ck.opp X1',[]⟩,g1,g2,h2,h1,none,0,none,0,none,0,[],none,0,[],1001⟩,X2',X1',rfl,?_,rfl,rfl,rfl,rfl,rfl⟩;refine an.perm h10 (fun i=>([2,5,6,3,8,9,1]:List Nat).getD i 0) (fun i hi=>?_) (fun i j hi hj hij=>(show ∀i,i < 7->∀j,j < 7->i ≠ j->([2,5,6,3,8,9,1]:List Nat).getD i 0 ≠ ([2,5,6,3,8,9,1]:List Nat).getD j 0 by decide) i hi j hj hij) _ (fun i hi=>?_)
   ·revert hi;revert i;decide
   ·rcases (by omega:i=0\/i=1\/i=2\/i=3\/i=4\/i=5\/i=6)with rfl | rfl | rfl | rfl | rfl | rfl | rfl<;>rfl
end Go.Proofs.YtbfpdnnphdagjaaGreat
namespace Go.Proofs.YtbfpdnnphdagjaaGreat
open Go.RowKit
section
variable {w0 w w':World} {n:Nat} {A:Nat->Ag} {i j:Nat}
theorem AL (w0:World) (B:Option Addr) (m:Nat) (z:Nat->Nat):xO w0 (zx B m z) B m (fun j=>((z j:Nat):Int)):=fun V n A hF hn hA h0=>by
 obtain⟨O,h1,_⟩:=hF.at_ (i:=7) (by omega);rw[hA]at h1;obtain⟨lb,lo,e,_,hc⟩:=h1.1 (by omega)
 exact⟨lb,lo,e,hc⟩
theorem oC {w0:World} {X:Ag} {LA:Option Addr} {ln:Nat} {lz:Nat->Int} (h:aD w0 w0.heap.size LA ln (fun j=>.int .u8 (lz j))):xO w0 X LA ln lz:=fun V n A hF hn hA h0=>by
 obtain⟨lb,lo,e,hb,hc⟩:=h (by omega)
 exact⟨lb,lo,e,fun j hj=>(hF.low.cell (p:=⟨lb,lo+j,none⟩) hb).trans (hc j hj)⟩
theorem an.newRow (h:an w0 w n A) (cs:Array Value) (t:TypeId) (m:Nat) (z:Nat->Nat) (hz:∀j,j < m->cs[j]? = some (.int .u8 ((z j:Nat):Int))):an w0 (w.alloc (.cells cs t)) (n+1) (bW A n (zx (some ⟨w.heap.size,0,none⟩) m z)):=
 h.new_ ((Below.refl _ w).alloc ay _) (O':=fun k=>k=w.heap.size) ⟨fun h0=>⟨w.heap.size,0,rfl,by simp,fun j hj=>by rw[Nat.zero_add];exact((ae.new w t cs).cell j).trans (hz j hj)⟩,fun a ha=>by cases ha;simp,fun k=>⟨fun hk=>⟨_,rfl,hk⟩,fun⟨a,ha,hk⟩=>by cases ha;exact hk⟩⟩ (fun k hk=>by omega)
theorem an.submitW (h:an w0 w n A) (hi:i < n) (hj:j < n) (hij:j ≠ i) {g:Nat} {s:TS} (hA:A i=fN g s) (hf:s.Fine) (hcm:s.C.cm=false) (hql:s.Q.length<=1000000) (B:Option Addr) (m c:Nat) (z:Nat->Nat) (hB:A j=zx B m z) (hz:∀j,j < m->z j < 256) (hm:m<=1000000) :
  Calls Tryz.prog 8 #[.pointer (some ⟨g,0,none⟩),.int .i64 0,.slice B m c] w fun e w'=>e=.returned (.int .i64 (s.submit 0 m (fun j=>((z j:Nat):Int))).1)/\an w0 w' n (bW A i (fN g (s.submit 0 m (fun j=>((z j:Nat):Int))).2)):=by
 obtain⟨O,h1,h2,h4,h3⟩:=h.at_ hi;rw[hA]at h1;obtain⟨W,R,t1,t2⟩:=h1;obtain⟨Oj,p1,p2⟩:=h4 j hj hij;rw[hB]at p1;refine(rk g s W R w t1 hf hcm hql 0 (by decide) (by decide) B m c _ ⟨p1.1,fun j hj=>⟨by omega,by have:=hz j hj;omega⟩,fun a ha _ hw=>p2 a.block ((t2 _).2 (.inl hw)) ((p1.2.2 _).2 ⟨a,ha,rfl⟩)⟩ hm).mono fun e w' ⟨he,W',R',o1,o2,o3,o4⟩=>⟨he,h3 (fN g _) (fun k=>W' k\/R' k) w' ⟨W',R',o1,fun k=>Iff.rfl⟩ (o4.mono (fun k hk=>(t2 k).2 (.inl hk))) (fun k hk=>?_)⟩
 rcases hk with hk | hk
 ·exact(o2 k hk).imp (fun h=>(t2 k).2 (.inl h)) id
 ·exact(o3 k hk).imp (fun h=>(t2 k).2 (.inr h)) id
theorem an.tconfig (h:an w0 w n A) (hi:i < n) {g:Nat} {s:TS} (hA:A i=fN g s):Calls Tryz.prog 10 #[.pointer (some ⟨g,0,none⟩)] w fun e w'=>e=.returned (.tuple #[.agg s.C.arr,.int .i64 0])/\Below w.heap.size w w':=by
 obtain⟨W,R,t1,_⟩:=h.tx hi hA
 exact g9 g s W R w t1
theorem an.rconfig (h:an w0 w n A) (hi:i < n) {g:Nat} {s:RS} {B:Option Addr} {c:Nat} {vs:List SV} (hA:A i=fP g s B c vs):Calls Tryz.prog 11 #[.pointer (some ⟨g,0,none⟩)] w fun e w'=>e=.returned (.tuple #[.agg s.C.arr,.int .i64 0])/\Below w.heap.size w w':=by
 obtain⟨W,R,sb,l,ub,eb,t1,_⟩:=h.rx hi hA
 exact fH g s W R sb l ub eb w t1
theorem an.key (h:an w0 w n A) (hi:i < n) {b:Nat} {arr:Array Value} (hA:A i=bX b 39 arr) {m:Nat} (hm:m < 60000) (h8:arr[8]? = some (.int .i64 (m:Int))) :
  Calls Tryz.prog 12 #[.pointer (some ⟨b,0,none⟩)] w fun e w'=>e=.returned (.agg (aj (aY (m+1))))/\an w0 w' n (bW A i (bX b 39 (arr.setIfInBounds 8 (.int .i64 ((m+1:Nat):Int))))):=by
 obtain⟨O,h1,h2,_,h3⟩:=h.at_ hi;rw[hA]at h1;obtain⟨t1,t2⟩:=h1
 exact(sJ b arr m hm h8 w t1).mono fun e w' ⟨he,hb,hk⟩=>⟨he,h3 _ (fun k=>k=b) w' ⟨hb,fun k=>Iff.rfl⟩ (hk.mono (fun k hk=>(t2 k).2 hk)) (fun k hk=>.inl ((t2 k).2 hk))⟩
end
end Go.Proofs.YtbfpdnnphdagjaaGreat
