/- Words that the printed proofs of this claim use: plain theorems, for every program (out of the print's words: what the law does not reach is left out). -/
import Derived.Test.YtdfekcelcdkjlaaGreatUFnConfinedWWords
import Derived.Test.YtdfekcelcdkjlaaGreatUFnConfinedWMore
import Derived.Test.YtdfekcelcdkjlaaGreatUFnConfinedV
import Derived.Laws.IdiomStrings
import Derived.Laws.IdiomCopy
import Derived.Lib.LazyBuf
import Derived.Maps.AppendAt
import Derived.Deep.RegionHeldLaw
namespace Go.Proofs.YtdfekcelcdkjlaaGreatV
open Go.RowKit Go.Proofs.YtdfekcelcdkjlaaGreatW.PrintWords Go.Proofs.YtdfekcelcdkjlaaGreatW.PrintLast Go.Proofs.YtdfekcelcdkjlaaGreatW.PrintMore
def Kf (e:Nat) (w:World) (base:Nat) (_ok:Nat→Prop) (v:Value) (xs:List Int):Prop :=
  ∃ (g cap:Nat) (cur:Array Value),v=.slice (some ⟨g,0,none⟩) xs.length cap∧base≤g∧w.heap[g]?=some (.cells cur e (cap,cap + 1))∧xs.length≤cap∧cur.size=cap∧cur.toList.take xs.length=nums .u8 xs
namespace Kf
section
variable {e:Nat} {w w1:World} {base base':Nat} {ok ok':Nat→Prop} {v:Value} {xs:List Int}
theorem R_lower (h:Kf e w base ok v xs) (hb:base'≤base):Kf e w base' ok v xs:=by
  obtain ⟨g,cap,cur,h1,h2,h3⟩:=h;exact ⟨g,cap,cur,h1,Nat.le_trans hb h2,h3⟩
theorem R_mono (h:Kf e w base ok v xs) (_:∀ k,ok k→ok' k):Kf e w base ok' v xs:=h
theorem R_move (h:Kf e w base ok v xs) (hm:∀ k,v.ownBlock=some k→w1.heap[k]?=w.heap[k]?):Kf e w1 base ok v xs:=by
  obtain ⟨g,cap,cur,rfl,h2,h3,h4⟩:=h;exact ⟨g,cap,cur,rfl,h2,(hm g rfl).trans h3,h4⟩
theorem R_lt (h:Kf e w base ok v xs):∀ k,v.ownBlock=some k→k < w.heap.size:=by
  obtain ⟨g,cap,cur,rfl,h2,h3,_⟩:=h;rintro k hk;obtain rfl:g=k:=by simpa [Value.ownBlock] using hk
  exact (Array.getElem?_eq_some_iff.1 h3).1
theorem R_base (h:Kf e w base ok v xs):∀ k,v.ownBlock=some k→base≤k:=by
  obtain ⟨g,cap,cur,rfl,h2,_⟩:=h;rintro k hk;obtain rfl:g=k:=by simpa [Value.ownBlock] using hk
  exact h2
theorem R_below (h:Kf e w base ok v xs) (hb:Below w.heap.size w w1):Kf e w1 base ok v xs:=R_move h fun k hk=>hb.block k (R_lt h k hk)
theorem R_alloc (h:Kf e w base ok v xs) (o:Obj):Kf e (w.alloc o) base ok v xs:=R_below h (below_alloc (Below.refl _ _) o)
theorem R_drew (h:Kf e w base ok v xs):Kf e w.drew base ok v xs:=R_below h (below_drew (Below.refl _ _))
theorem R_drewN (h:Kf e w base ok v xs) (m:Nat):Kf e (w.drewN m) base ok v xs:=R_below h (pw_below_drewN (Below.refl _ _) m)
theorem R_slice (h:Kf e w base ok v xs):∃ A c,v=.slice A xs.length c:=by
  obtain ⟨g,cap,cur,h1,_⟩:=h;exact ⟨_,_,h1⟩
theorem R_reads' {A:Option Addr} {n c:Nat} (h:Kf e w base ok (.slice A n c) xs):n=xs.length∧n≤c:=by
  obtain ⟨g,cap,cur,h1,_,_,h4,_⟩:=h;injection h1 with _ a2 a3;exact ⟨a2,by omega⟩
theorem R_form (h:Kf e w base ok v xs):∃ g cap,v=.slice (some ⟨g,0,none⟩) xs.length cap∧base≤g∧g < w.heap.size∧∃ cells,w.heap[g]?=some (.cells cells e (cap,cap + 1)):=by
  obtain ⟨g,cap,cur,h1,h2,h3,_⟩:=h;exact ⟨g,cap,h1,h2,(Array.getElem?_eq_some_iff.1 h3).1,cur,h3⟩
theorem R_ne (h:Kf e w base ok v xs) {g t:Nat} {cells:Array Value} (hb:w.heap[g]?=some (.cells cells t (0,0))) (ht:e≠t):some g≠v.ownBlock:=by
  obtain ⟨g',cap,cur,rfl,h2,h3,_⟩:=h;intro q;obtain rfl:g=g':=by simpa [Value.ownBlock] using q
  rw [hb] at h3;injection h3 with h3;injection h3 with _ a2 _;exact ht a2.symm
theorem cell_lt {cur:Array Value} (hc:cur.toList.take xs.length=nums .u8 xs) {i:Nat} (hi:i < xs.length):cur[i]?=some (.int .u8 (xs.getD i 0)):=by
  have:(cur.toList.take xs.length)[i]?=(nums .u8 xs)[i]?:=by rw [hc]
  rw [List.getElem?_take,if_pos hi] at this;rw [← Array.getElem?_toList,this]
  simp [nums,List.getElem?_eq_getElem hi,List.getD_eq_getElem?_getD]
theorem R_celln (_d:Int) {g n cap:Nat} (h:Kf e w base ok (.slice (some ⟨g,0,none⟩) n cap) xs) (i:Int) (h0:0≤i) (hi:i < n):w.cell? ⟨g,i.toNat,none⟩=some (.int .u8 (rd xs i))∧w.frozen? ⟨g,i.toNat,none⟩=false:=by
  obtain ⟨g',cap',cur,h1,_,h3,h4,h5,h6⟩:=h;injection h1 with a1 a2 a3;obtain rfl:g=g':=by injection a1 with a1;injection a1
  have hlt:i.toNat < xs.length:=by omega
  constructor
  · unfold World.cell?;rw [h3];show cur[i.toNat]?=_;rw [cell_lt h6 hlt]
    rfl
  · unfold World.frozen?;rw [h3];show (decide (cap'≤i.toNat) && decide (i.toNat < cap' + 1))=false;rw [decide_eq_false (by omega),Bool.false_and]
theorem setCell_heap (W:World) (g j:Nat) (u:Value) (cur:Array Value) (t:TypeId) (fz:Nat × Nat) (h:W.heap[g]?=some (.cells cur t fz)):(W.setCell ⟨g,j,none⟩ u).heap[g]?=some (.cells (cur.setIfInBounds j u) t fz):=by
  simp only [World.setCell,Array.getElem?_modify,if_true,h]
  rfl
theorem R_putg {g n cap:Nat} (h:Kf e w base ok (.slice (some ⟨g,0,none⟩) n cap) xs) (i:Int) (x:Int):Kf e (w.setCell ⟨g,i.toNat,none⟩ (.int .u8 x)) base ok (.slice (some ⟨g,0,none⟩) n cap) (xs.set i.toNat x)∧w.grownBy (w.setCell ⟨g,i.toNat,none⟩ (.int .u8 x)) (some g):=by
  obtain ⟨g',cap',cur,h1,h2,h3,h4,h5,h6⟩:=h;injection h1 with a1 a2 a3;obtain rfl:g=g':=by injection a1 with a1;injection a1
  subst a3;subst a2;refine ⟨⟨g,cap,cur.setIfInBounds i.toNat (.int .u8 x),by rw [List.length_set],h2,setCell_heap w g i.toNat _ cur e _ h3,by rw [List.length_set];exact h4,by simpa using h5,?_⟩,?_⟩
  · rw [List.length_set];apply List.ext_getElem?;intro j;rw [List.getElem?_take];by_cases hj:j < xs.length
    · rw [if_pos hj];by_cases c:i.toNat=j
      · subst c
        simp [nums,hj,show i.toNat < cur.size by omega]
      · have:=cell_lt h6 hj;rw [Array.getElem?_toList,Array.getElem?_setIfInBounds,if_neg c,this]
        simp [nums,hj,c,List.getD_eq_getElem?_getD]
    · rw [if_neg hj]
      symm
      simp [nums]
      omega
  · exact ⟨rfl,rfl,rfl,by simp [World.setCell],fun k _ hk=>Below.heap_setCell w _ _ k (fun q=>hk (by rw [q]))⟩
theorem R_putn {g n cap:Nat} (h:Kf e w base ok (.slice (some ⟨g,0,none⟩) n cap) xs) (i:Int) (x:Int):Kf e (w.setCell ⟨g,i.toNat,none⟩ (.int .u8 x)) base ok (.slice (some ⟨g,0,none⟩) n cap) (xs.set i.toNat x):=(R_putg h i x).1
theorem own_string {P:Program} {src dst t:TypeId} (hs:P.underlying src=some (.slice t)) (he:P.underlying t=some (.int .u8)) (hd:P.underlying dst=some .string) (h:Kf e w base ok v xs):(convert src dst v).run P w=.ok (.string (strOfNums xs)) w:=by
  obtain ⟨g,cap,cur,rfl,_,h3,h4,h5,h6⟩:=h;refine run_convert_bytes_arg w src t hs he g 0 xs.length cap xs rfl (fun i hi=>?_) dst hd;unfold World.cell?;rw [h3];show cur[0 + i]?=_;rw [Nat.zero_add,cell_lt h6 hi]
end
section
variable {P:Program} {ops:Array Oper} {rest:List Oper} {o:Oper} {a:Act} {Q:Exit→Act→World→Prop}
theorem made (W:World) (base e:Nat) (ok:Nat→Prop) (s:ByteArray) (cap:Nat) (hb:base≤W.heap.size) (hc:s.size≤cap) :
    Kf e (W.drew.alloc (.cells (bytesRow s cap) e ((bytesRow s cap).size,(bytesRow s cap).size + 1))) base ok (.slice (some ⟨W.heap.size,0,none⟩) s.size cap) (bytesOf s):=by
  have hn:(bytesRow s cap).size=cap:=by simp only [bytesRow,Array.size_append,Array.size_map,Array.size_replicate];show s.size + (cap - s.size)=cap;omega
  have hl:(bytesOf s).length=s.size:=bytesOf_length s;rw [hn];refine ⟨W.heap.size,cap,bytesRow s cap,by rw [hl],hb,heap_alloc_new W.drew _,by omega,hn,?_⟩;rw [hl];have e1:(bytesRow s cap).toList=nums .u8 (bytesOf s) ++ List.replicate (cap - s.size) (.int .u8 0):=by
    simp [bytesRow,nums,bytesOf]
  rw [e1,List.take_left' (by simp [nums,hl])]
theorem R_conv {w0 W:World} (base e:Nat) (hgd:o.guard=none) {N:Tmp} (_hd:o.dst=some N) (src dst:TypeId) (x:Operand) (ho:o.op=.convert src dst x) (s:ByteArray) (hx:a.eval x=.string s)
    (hs:P.underlying src=some .string) (hdt:P.underlying dst=some (.slice e)) (he:P.underlying e=some (.int .u8)) (HB:Below base w0 W) (hbase:base≤W.heap.size)
    (h:∀ v1 w1,Kf e w1 base (fun _=>True) v1 (bytesOf s)→Below base w0 w1→W.grownBy w1 none→True→wpList P ops Q rest (a.put o.dst v1) w1):wpList P ops Q (o :: rest) a W:=by
  have hc:s.size≤grownCap W s.size 0 e:=grownCap_ge W s.size 0 e;refine Kd.event_run hgd ?_ (h (.slice (some ⟨W.heap.size,0,none⟩) s.size (grownCap W s.size 0 e)) (W.drew.alloc (.cells (bytesRow s (grownCap W s.size 0 e)) e ((bytesRow s (grownCap W s.size 0 e)).size,(bytesRow s (grownCap W s.size 0 e)).size + 1))) (made W base e _ s _ hbase hc) ((below_drew1 HB).alloc hbase _) ?_ trivial)
  · simp [execOp,ho,hx,run_bytes_of_string W src dst e s hs hdt he]
  · exact ⟨rfl,rfl,rfl,by simp,fun k hk _=>Below.heap_alloc W.drew _ k hk⟩
end
end Kf
section
variable {α:Type} {d:Kd α} {e e':Nat} {w1 W:World} {base b':Nat} {ok ok':Nat→Prop} {u v:Value} {xs:List α} {ys:List Int}
theorem Kf.R_typed (h:Kf e' W b' ok' v ys):∀ k,v.ownBlock=some k→∃ cells fr,W.heap[k]?=some (.cells cells e' fr):=by
  obtain ⟨g,cap,cur,rfl,_,hb,_⟩:=h;intro k hk;injection hk with hk;subst hk;exact ⟨_,_,hb⟩
theorem Kf.R_set (h:Kf e' W b' ok' v ys) {g t:Nat} {cs:Array Value} (hb:W.heap[g]?=some (.cells cs t (0,0))) (j:Nat) (x:Value):Kf e' (W.setCell ⟨g,j,none⟩ x) b' ok' v ys:=by
  obtain ⟨g0,cap,cur,e,hb0,hc,r⟩:=h;refine ⟨g0,cap,cur,e,hb0,?_,r⟩;have hne:g0≠g:=by
    rintro rfl;rw [hb] at hc;injection hc with hc;injection hc with _ _ hc;injection hc with h0 h1;subst h0;cases h1
  exact (Below.heap_setCell W ⟨g,j,none⟩ x g0 hne).trans hc
theorem Kf.R_set3 (h:Kf e' W b' ok' v ys) {g t:Nat} {cs:Array Value} (hb:W.heap[g]?=some (.cells cs t (0,0))) (x y z:Value):Kf e' (((W.setCell ⟨g,0,none⟩ x).setCell ⟨g,1,none⟩ y).setCell ⟨g,2,none⟩ z) b' ok' v ys :=
  Kf.R_set (Kf.R_set (Kf.R_set h hb 0 x) (blk_set hb 0 x) 1 y) (blk_set (blk_set hb 0 x) 1 y) 2 z
theorem R_overK (h:d.R e W base ok u xs) (hty:∀ k,v.ownBlock=some k→∃ cells fr,W.heap[k]?=some (.cells cells e' fr)) (ht:∀ q,q ∈ e :: d.E→q≠e') (hg:W.grownBy w1 v.ownBlock):d.R e w1 base ok u xs:=by
  refine Kd.R_mono (Kd.R_move (Kd.R_bound h) (fun k hk=>hg.block k hk.2.2.1 (fun he=>?_))) (fun _ hk=>hk.1);obtain ⟨_,_,_,q,hq,cells,hc⟩:=hk;obtain ⟨cells',fr,hc'⟩:=hty k he.symm;rw [hc] at hc';injection hc' with hc';injection hc' with _ hc';exact ht q hq hc'
theorem S_overK (h:Kd.S d e W base ok u xs) (hty:∀ k,v.ownBlock=some k→∃ cells fr,W.heap[k]?=some (.cells cells e' fr)) (ht:∀ q,q ∈ e :: d.E→q≠e') (hg:W.grownBy w1 v.ownBlock):Kd.S d e w1 base ok u xs:=by
  obtain ⟨f,h⟩:=h;exact ⟨f,R_overK h hty ht hg⟩
end
end Go.Proofs.YtdfekcelcdkjlaaGreatV
