import Derived.Test.YtiiojpnckbglcaaGreatMECs
import Derived.Test.YtiiojpnckbglcaaGreatY2Es
import Derived.Laws.Tables
import Derived.Laws.EntriesVeiled
set_option maxRecDepth 100000
set_option maxHeartbeats 1600000
set_option linter.unusedVariables false
set_option linter.unusedSimpArgs false
namespace Go.Proofs.YtiiojpnckbglcaaGreat
open Go.RowKit
def lO (l:List Nat):Value:=.string ⟨(l.map UInt8.ofNat).toArray⟩
def bj (b:Nat):Array Value:=#[
 lO [118,101,114,115,105,111,110],.int .i64 4,.func (.func 171) #[] #[.pointer (some ⟨b,0,none⟩)],
 lO [99,108,97,115,115],.int .i64 4,.func (.func 172) #[] #[],
 lO [102,108,111,119],.int .i64 16,.func (.func 173) #[] #[],
 lO [115,111,117,114,99,101],.int .i64 32,.func (.func 174) #[] #[],
 lO [100,101,115,116],.int .i64 32,.func (.func 175) #[] #[],
 lO [112,114,111,116,111],.int .i64 8,.func (.func 176) #[] #[],
 lO [104,111,112,115],.int .i64 8,.func (.func 177) #[] #[],
 lO [105,100,101,110,116],.int .i64 16,.func (.func 178) #[] #[],
 lO [116,105,109,101],.int .i64 24,.func (.func 179) #[] #[],
 lO [108,101,110,103,116,104],.int .i64 16,.func (.func 180) #[] #[]]
theorem lr:(Tryz.prog.info? 215).map (·.size)=some 30:=by kernel_rfl
theorem m6 (w:World) :
  Calls Tryz.prog 131 #[] w fun e w'=>e=.returned (.agg (bj (w.heap.size+1)))/\ae w' (w.heap.size+1) 3 #[.int .i64 5]/\Below w.heap.size w w':=by
 go_enter Tryz.func131,Tryz.ntmps131;go_wp2_with (refine wpList_store_row rfl _ _ _ rfl w.heap.size (bj (w.heap.size+1)) rfl rfl 215 _ ((Below.heap_alloc _ _ _ (by simp)).trans (World.alloc_heap_new w _)) lr rfl (by kernel_rfl) ?_);have B0:ae ((w.alloc (.cells #[.string ⟨#[]⟩,.int .i64 0,.nilFunc,.string ⟨#[]⟩,.int .i64 0,.nilFunc,.string ⟨#[]⟩,.int .i64 0,.nilFunc,.string ⟨#[]⟩,.int .i64 0,.nilFunc,.string ⟨#[]⟩,.int .i64 0,.nilFunc,.string ⟨#[]⟩,.int .i64 0,.nilFunc,.string ⟨#[]⟩,.int .i64 0,.nilFunc,.string ⟨#[]⟩,.int .i64 0,.nilFunc,.string ⟨#[]⟩,.int .i64 0,.nilFunc,.string ⟨#[]⟩,.int .i64 0,.nilFunc] 215)).alloc (.cells #[.int .i64 5] 3)) w.heap.size 215 _:=(ae.new w _ _).alloc _;have B1:=ae.new (w.alloc (.cells #[.string ⟨#[]⟩,.int .i64 0,.nilFunc,.string ⟨#[]⟩,.int .i64 0,.nilFunc,.string ⟨#[]⟩,.int .i64 0,.nilFunc,.string ⟨#[]⟩,.int .i64 0,.nilFunc,.string ⟨#[]⟩,.int .i64 0,.nilFunc,.string ⟨#[]⟩,.int .i64 0,.nilFunc,.string ⟨#[]⟩,.int .i64 0,.nilFunc,.string ⟨#[]⟩,.int .i64 0,.nilFunc,.string ⟨#[]⟩,.int .i64 0,.nilFunc,.string ⟨#[]⟩,.int .i64 0,.nilFunc] 215)) 3 #[.int .i64 5];rw[World.size_alloc]at B1;refine bodyPost_ret (v:=.agg (bj (w.heap.size+1))) (results_cell_row (g:=w.heap.size) (t:=215) (fr:=(0,0)) Tryz.results131 _ _ _ _ rfl (B0.setRow (ds:=bj (w.heap.size+1))) Tryz.underlying215 rfl lr) rfl ⟨rfl,B1.farRow (by simp),?_⟩
 exact aj (((Below.refl _ w).alloc ao _).alloc (by simp) _) ao _
def oz:Nat->Value
 | 0=>lO [118,101,114,115,105,111,110]
 | 1=>lO [99,108,97,115,115]
 | 2=>lO [102,108,111,119]
 | 3=>lO [115,111,117,114,99,101]
 | 4=>lO [100,101,115,116]
 | 5=>lO [112,114,111,116,111]
 | 6=>lO [104,111,112,115]
 | 7=>lO [105,100,101,110,116]
 | 8=>lO [116,105,109,101]
 | 9=>lO [108,101,110,103,116,104]
 | _=>.nilFunc
def iG:Nat->Nat
 | 0=>4
 | 1=>4
 | 2=>16
 | 3=>32
 | 4=>32
 | 5=>8
 | 6=>8
 | 7=>16
 | 8=>24
 | 9=>16
 | _=>0
def yB (b:Nat):Nat->Value
 | 0=>.func (.func 171) #[] #[.pointer (some ⟨b,0,none⟩)]
 | 1=>.func (.func 172) #[] #[]
 | 2=>.func (.func 173) #[] #[]
 | 3=>.func (.func 174) #[] #[]
 | 4=>.func (.func 175) #[] #[]
 | 5=>.func (.func 176) #[] #[]
 | 6=>.func (.func 177) #[] #[]
 | 7=>.func (.func 178) #[] #[]
 | 8=>.func (.func 179) #[] #[]
 | 9=>.func (.func 180) #[] #[]
 | _=>.nilFunc
theorem yx {p:Nat->Prop} (h0:p 0) (h1:p 1) (h2:p 2) (h3:p 3) (h4:p 4) (h5:p 5) (h6:p 6) (h7:p 7) (h8:p 8) (h9:p 9) (k:Nat) (hk:k < 10):p k:=by
 match k,hk with
 | 0,_=>exact h0
 | 1,_=>exact h1
 | 2,_=>exact h2
 | 3,_=>exact h3
 | 4,_=>exact h4
 | 5,_=>exact h5
 | 6,_=>exact h6
 | 7,_=>exact h7
 | 8,_=>exact h8
 | 9,_=>exact h9
def hdr (h:Nat->Int):Array Value:=#[.int .i64 (h 0),.int .i64 (h 1),.int .i64 (h 2),.int .i64 (h 3),.int .i64 (h 4),.int .i64 (h 5),.int .i64 (h 6),.int .i64 (h 7),.int .i64 (h 8)]
theorem uk (h:Nat->Int) (j:Nat) (hj:j < 9):(hdr h)[j]? = some (.int .i64 (h j)):=by
 match j,hj with
 | 0,_=>rfl
 | 1,_=>rfl
 | 2,_=>rfl
 | 3,_=>rfl
 | 4,_=>rfl
 | 5,_=>rfl
 | 6,_=>rfl
 | 7,_=>rfl
 | 8,_=>rfl
def yA (b hb:Nat) (k:Nat):Addr:=if k=0 then ⟨b,0,none⟩ else ⟨hb,k-1,none⟩
theorem yI (b hb:Nat) (w:World):Calls Tryz.prog 171 #[.pointer (some ⟨hb,0,none⟩),.pointer (some ⟨b,0,none⟩)] w fun e w'=>e=.returned (.pointer (some ⟨b,0,none⟩))/\w'=w:=by
 go_enter Tryz.func171,Tryz.ntmps171;go_wp2;go_ret
 exact⟨rfl,rfl⟩
theorem yX (hb:Nat) (w:World):Calls Tryz.prog 172 #[.pointer (some ⟨hb,0,none⟩)] w fun e w'=>e=.returned (.pointer (some ⟨hb,0,none⟩))/\w'=w:=by
 go_enter Tryz.func172,Tryz.ntmps172;go_wp2;go_ret
 exact⟨rfl,rfl⟩
theorem yU (hb:Nat) (w:World):Calls Tryz.prog 173 #[.pointer (some ⟨hb,0,none⟩)] w fun e w'=>e=.returned (.pointer (some ⟨hb,1,none⟩))/\w'=w:=by
 go_enter Tryz.func173,Tryz.ntmps173;go_wp2;go_ret
 exact⟨rfl,rfl⟩
theorem yZ (hb:Nat) (w:World):Calls Tryz.prog 174 #[.pointer (some ⟨hb,0,none⟩)] w fun e w'=>e=.returned (.pointer (some ⟨hb,2,none⟩))/\w'=w:=by
 go_enter Tryz.func174,Tryz.ntmps174;go_wp2;go_ret
 exact⟨rfl,rfl⟩
theorem yM (hb:Nat) (w:World):Calls Tryz.prog 175 #[.pointer (some ⟨hb,0,none⟩)] w fun e w'=>e=.returned (.pointer (some ⟨hb,3,none⟩))/\w'=w:=by
 go_enter Tryz.func175,Tryz.ntmps175;go_wp2;go_ret
 exact⟨rfl,rfl⟩
theorem yN (hb:Nat) (w:World):Calls Tryz.prog 176 #[.pointer (some ⟨hb,0,none⟩)] w fun e w'=>e=.returned (.pointer (some ⟨hb,4,none⟩))/\w'=w:=by
 go_enter Tryz.func176,Tryz.ntmps176;go_wp2;go_ret
 exact⟨rfl,rfl⟩
theorem yQ (hb:Nat) (w:World):Calls Tryz.prog 177 #[.pointer (some ⟨hb,0,none⟩)] w fun e w'=>e=.returned (.pointer (some ⟨hb,5,none⟩))/\w'=w:=by
 go_enter Tryz.func177,Tryz.ntmps177;go_wp2;go_ret
 exact⟨rfl,rfl⟩
theorem yV (hb:Nat) (w:World):Calls Tryz.prog 178 #[.pointer (some ⟨hb,0,none⟩)] w fun e w'=>e=.returned (.pointer (some ⟨hb,6,none⟩))/\w'=w:=by
 go_enter Tryz.func178,Tryz.ntmps178;go_wp2;go_ret
 exact⟨rfl,rfl⟩
theorem yO (hb:Nat) (w:World):Calls Tryz.prog 179 #[.pointer (some ⟨hb,0,none⟩)] w fun e w'=>e=.returned (.pointer (some ⟨hb,7,none⟩))/\w'=w:=by
 go_enter Tryz.func179,Tryz.ntmps179;go_wp2;go_ret
 exact⟨rfl,rfl⟩
theorem yJ (hb:Nat) (w:World):Calls Tryz.prog 180 #[.pointer (some ⟨hb,0,none⟩)] w fun e w'=>e=.returned (.pointer (some ⟨hb,8,none⟩))/\w'=w:=by
 go_enter Tryz.func180,Tryz.ntmps180;go_wp2;go_ret
 exact⟨rfl,rfl⟩
end Go.Proofs.YtiiojpnckbglcaaGreat
