/- A confined tile shows the same, whatever there is beside it in the picture before: the law FnConfined answers true of every row of bytes. No condition beside the row's own. -/
import Derived.Test.YtdfekcelcdkjlaaGreatQFnConfinedx9
namespace Go.Proofs.YtdfekcelcdkjlaaGreat.Pure
open Go.RowKit Go.Proofs.YtdfekcelcdkjlaaGreat.QFnConfined Go.Proofs.YtdfekcelcdkjlaaGreatW.PrintWords Go.Proofs.YtdfekcelcdkjlaaGreatW.PrintLast Go.Proofs.YtdfekcelcdkjlaaGreatW.PrintMore Go.Proofs.YtdfekcelcdkjlaaGreatV
set_option linter.unusedVariables false
set_option linter.unusedSimpArgs false
theorem wrap_id {x:Int} (h0:-9223372036854775808≤x) (h1:x≤9223372036854775807):wrap64 x=x:=by
 unfold wrap64;omega
theorem within_eq (a b c:Int):impl_within.f a b c=some (decide (b≤a∧a≤c)):=by
 unfold impl_within.f;by_cases h:a ≥ b
 ·rw [if_pos h];congr 1;rw [decide_eq_decide];omega
 ·rw [if_neg h];congr 1;symm;rw [decide_eq_false_iff_not];omega
theorem in_eq (a b c:Int):spec_l01In.f a b c=some (decide (b≤a∧a≤c)):=by
 unfold spec_l01In.f;by_cases h:a ≥ b
 ·rw [if_pos h];congr 1;rw [decide_eq_decide];omega
 ·rw [if_neg h];congr 1;symm;rw [decide_eq_false_iff_not];omega
theorem down {P:Nat→Prop} (n:Nat) (h0:P n) (hs:∀ i,i < n→P (i + 1)→P i):∀ i,i≤n→P i:=by
 intro i hi;obtain ⟨d,hd⟩:∃ d,d=n - i:=⟨_,rfl⟩
 induction d generalizing i with
 | zero =>
  have:i=n:=by omega
  subst this;exact h0
 | succ d ih=>exact hs i (by omega) (ih (i + 1) (by omega) (by omega))
theorem rd_nat (l:List Int) (i:Nat) (h:i < l.length):rd l (i:Int)=l[i]:=by
 unfold rd;rw [List.getD_eq_getElem?_getD,Int.toNat_natCast,List.getElem?_eq_getElem h];rfl
theorem cast1 (i:Nat):((i:Nat):Int) + 1=((i + 1:Nat):Int):=rfl
theorem mix_set {α:Type} (l z:List α) (i:Nat) (hi:i < l.length) (hz:i < z.length):(l.take i ++ z.drop i).set i l[i]=l.take (i + 1) ++ z.drop (i + 1):=by
 rw [List.set_append_right _ _ (by simp;omega)];rw [show i - (l.take i).length=0 by simp;omega];rw [List.drop_eq_getElem_cons hz,List.set_cons_zero,List.take_succ_eq_append_getElem hi,List.append_assoc];rfl
theorem mix_length {α:Type} (l z:List α) (i:Nat) (h:l.length=z.length) (hi:i≤l.length):(l.take i ++ z.drop i).length=l.length:=by
 simp;omega
theorem mix_end {α:Type} (l z:List α) (h:l.length=z.length):l.take l.length ++ z.drop l.length=l:=by
 rw [List.take_length,h,List.drop_length,List.append_nil]
theorem mix_zero {α:Type} (l z:List α):l.take 0 ++ z.drop 0=z:=by simp
theorem drop_cons {α:Type} {l:List α} {i:Nat} (h:i < l.length):l.drop i=l[i] :: l.drop (i + 1):=List.drop_eq_getElem_cons h
/-- All numbers of a list are from lo to hi. -/
def allB (lo hi:Int) (l:List Int):Bool:=l.all fun x=>decide (lo≤x∧x≤hi)
theorem allB_cons (lo hi x:Int) (l:List Int):allB lo hi (x :: l)=(decide (lo≤x∧x≤hi) && allB lo hi l):=rfl
theorem allB_iff {lo hi:Int} {l:List Int}:allB lo hi l=true↔∀ x ∈ l,lo≤x∧x≤hi:=by
 unfold allB;rw [List.all_eq_true];simp only [decide_eq_true_eq]
theorem areIn_ev (l:List Int) (n lo hi:Int) (hl:l.length≤17592186043904):Ev (fun k=>impl_areIn.f k l n lo hi) (decide ((l.length:Int)=n) && allB lo hi l):=by
 have H:∀ i,i≤l.length→Ev (fun k=>impl_areIn.l0 k l n lo hi l (l.length:Int) (i:Int)) (decide ((l.length:Int)=n) && allB lo hi (l.drop i)):=by
  refine down l.length ?_ ?_
  ·refine Ev.step (f:=fun _=>some (decide ((l.length:Int)=n))) (fun k=>?_) ?_
   ·simp only [impl_areIn.l0];rw [if_neg (by omega)];congr 1
   ·rw [List.drop_length];simp only [allB,List.all_nil,Bool.and_true];exact Ev.now _
  ·intro i h1 h;rw [drop_cons h1,allB_cons];by_cases c:lo≤l[i]∧l[i]≤hi
   ·rw [decide_eq_true c,Bool.true_and];refine Ev.step (fun k=>?_) h;simp only [impl_areIn.l0];rw [if_pos (by omega),if_pos (by omega),if_pos (by omega),rd_nat l i h1,within_eq,Option.bind_some,if_pos (decide_eq_true c),wrap_id (by omega) (by omega),cast1]
   ·rw [decide_eq_false c,Bool.false_and,Bool.and_false];refine Ev.step (f:=fun _=>some false) (fun k=>?_) (Ev.now _);simp only [impl_areIn.l0];rw [if_pos (by omega),if_pos (by omega),if_pos (by omega),rd_nat l i h1,within_eq,Option.bind_some,if_neg (by simpa using c)]
 exact H 0 (by omega)
theorem all_ev (l:List Int) (n m:Int) (hl:l.length≤17592186043904) (hm:0≤m) (hm':m≤1000000000):Ev (fun k=>spec_l09All.f k l n m) (decide ((l.length:Int)=n) && allB (-m) m l):=by
 unfold spec_l09All.f;by_cases hn:(l.length:Int)=n
 ·subst hn;have H:∀ i,i≤l.length→Ev (fun k=>spec_l09All.l0 k l (l.length:Int) m (i:Int)) (allB (-m) m (l.drop i)):=by
   refine down l.length ?_ ?_
   ·refine Ev.step (f:=fun _=>some true) (fun k=>?_) ?_
    ·simp only [spec_l09All.l0];rw [if_neg (by omega)]
    ·rw [List.drop_length];exact Ev.now _
   ·intro i h1 h;rw [drop_cons h1,allB_cons];by_cases c:-m≤l[i]∧l[i]≤m
    ·rw [decide_eq_true c,Bool.true_and];refine Ev.step (fun k=>?_) h;simp only [spec_l09All.l0];rw [if_pos (by omega),if_pos (by omega),if_pos (by omega),rd_nat l i h1,wrap_id (x:=-m) (by omega) (by omega),in_eq,Option.bind_some,if_pos (decide_eq_true c),wrap_id (by omega) (by omega),cast1]
    ·rw [decide_eq_false c,Bool.false_and];refine Ev.step (f:=fun _=>some false) (fun k=>?_) (Ev.now _);simp only [spec_l09All.l0];rw [if_pos (by omega),if_pos (by omega),if_pos (by omega),rd_nat l i h1,wrap_id (x:=-m) (by omega) (by omega),in_eq,Option.bind_some,if_neg (by simpa using c)]
  refine Ev.congr (fun k=>by rw [if_pos rfl]) ?_;rw [decide_eq_true rfl,Bool.true_and];exact H 0 (by omega)
 ·rw [decide_eq_false hn,Bool.false_and];exact Ev.congr (f:=fun _=>some false) (fun k=>by rw [if_neg hn]) (Ev.now _)
/-- Guess and difference, joined. -/
def joinv (g d:List Int):List Int:=List.zipWith (fun a b=>mx 0 (mn (a + b) 255)) g d
def JOk (g d:List Int):Prop:=(g.length=64∧allB 0 255 g=true)∧(d.length=64∧allB (-10000000) 10000000 d=true)
instance (g d:List Int):Decidable (JOk g d):=by unfold JOk;infer_instance
theorem joinv_len {g d:List Int} (h:JOk g d):(joinv g d).length=64:=by
 unfold joinv;rw [List.length_zipWith,h.1.1,h.2.1];rfl
theorem joinv_get (g d:List Int) (i:Nat) (h:i < (joinv g d).length) (hg:i < g.length) (hd:i < d.length):(joinv g d)[i]=mx 0 (mn (g[i] + d[i]) 255):=by
 simp only [joinv,List.getElem_zipWith]
theorem len_decj (l:List Int) (n:Nat) (m:Int) (h:m=(n:Int)):decide ((l.length:Int)=m)=decide (l.length=n):=by rw [decide_eq_decide];omega
theorem and_false' {a b:Bool} {p:Prop} [Decidable p] (ha:a=decide p) (h:¬ (p∧b=true)):(a && b)=false:=by
 subst ha;rw [Bool.eq_false_iff];intro h';rw [Bool.and_eq_true,decide_eq_true_eq] at h';exact h h'
theorem join_loop (g d:List Int) (h:JOk g d):∀ i:Nat,i≤64→Ev (fun k=>impl_Joined.l0 k d ((joinv g d).take i) g 64 (i:Int)) (joinv g d):=by
 have hj:=joinv_len h;obtain ⟨⟨hg,bg⟩,hd,bd⟩:=h;refine down 64 ?_ ?_
 ·refine Ev.step (f:=fun _=>some (joinv g d)) (fun k=>?_) (Ev.now _);simp only [impl_Joined.l0];rw [if_neg (by omega),List.take_of_length_le (by omega)]
 ·intro i hi hh;refine Ev.step (fun k=>?_) hh;have r1:=allB_iff.1 bg _ (List.getElem_mem (show i < g.length by omega));have r2:=allB_iff.1 bd _ (List.getElem_mem (show i < d.length by omega));have e:=joinv_get g d i (by omega) (by omega) (by omega);simp only [impl_Joined.l0,impl_Brought.f,Option.bind_some];rw [if_pos (by omega),if_pos (by omega),if_pos (by omega),if_pos (by omega),if_pos (by simp;omega),rd_nat g i (by omega),rd_nat d i (by omega),wrap_id (x:=g[i] + d[i]) (by omega) (by omega),← e,← List.take_succ_eq_append_getElem (by omega),wrap_id (x:=(i:Int) + 1) (by omega) (by omega),cast1]
theorem joined_ev (g d:List Int) (hg:g.length≤17592186043904) (hd:d.length≤17592186043904):Ev (fun k=>impl_Joined.f k g d) (if JOk g d then joinv g d else []):=by
 unfold impl_Joined.f;simp only [Option.bind_some];have hbad:Ev (fun k=>impl_Joined.j0 k g d [] true) []:=Ev.step (f:=fun _=>some []) (fun k=>by simp only [impl_Joined.j0];rfl) (Ev.now _);refine Ev.bind (areIn_ev g 64 0 255 hg) ?_;rw [len_decj g 64 64 rfl];by_cases c1:g.length=64∧allB 0 255 g=true
 ·rw [decide_eq_true c1.1,c1.2];simp only [Bool.and_self,if_true];refine Ev.bind (areIn_ev d 64 (-10000000) 10000000 hd) ?_;rw [len_decj d 64 64 rfl];by_cases c2:d.length=64∧allB (-10000000) 10000000 d=true
  ·rw [if_pos ⟨c1,c2⟩,decide_eq_true c2.1,c2.2];simp only [Bool.and_self,Bool.not_true];refine Ev.step (fun k=>by simp only [impl_Joined.j0,Bool.false_eq_true,if_false];rfl) ?_;rw [c1.1];exact join_loop g d ⟨c1,c2⟩ 0 (by omega)
  ·rw [if_neg (fun h=>c2 h.2),and_false' rfl c2];simp only [Bool.not_false];exact hbad
 ·rw [if_neg (fun h=>c1 h.1),and_false' rfl c1];simp only [Bool.false_eq_true,if_false];exact hbad
/-- What a right picture is. -/
def PicR (w h:Int) (d:ByteArray):Prop:=(1≤w∧w≤256)∧(1≤h∧h≤256)∧(d.size:Int)=w * h
instance (w h:Int) (d:ByteArray):Decidable (PicR w h d):=by unfold PicR;infer_instance
theorem small_mul {w h a b:Int} (h0:0≤w) (h1:w≤a) (h2:0≤h) (h3:h≤b):0≤w * h∧w * h≤a * b:=by
 refine ⟨Int.mul_nonneg h0 h2,?_⟩;exact Int.mul_le_mul h1 h3 h2 (by omega)
theorem pic_some (w h:Int) (d:ByteArray):spec_PicOk.f w h d=some (decide (PicR w h d)):=by
 unfold spec_PicOk.f PicR;simp only [in_eq,Option.bind_some];by_cases c:1≤w∧w≤256
 ·by_cases c2:1≤h∧h≤256
  ·have hm:=small_mul (w:=w) (h:=h) (a:=256) (b:=256) (by omega) c.2 (by omega) c2.2;simp only [c,c2,decide_true,if_true,true_and,and_self];rw [wrap_id (by omega) (by omega)]
   rfl
  ·simp only [c,c2,decide_true,decide_false,if_true,true_and,false_and,and_self]
   rfl
 ·simp only [c,decide_false,false_and]
  rfl
theorem ipic_some (w h:Int) (d:ByteArray):impl_PicOk.f w h d=some (decide (PicR w h d)):=by
 unfold impl_PicOk.f PicR;simp only [within_eq,Option.bind_some];by_cases c:1≤w∧w≤256
 ·by_cases c2:1≤h∧h≤256
  ·have hm:=small_mul (w:=w) (h:=h) (a:=256) (b:=256) (by omega) c.2 (by omega) c2.2;simp only [c,c2,decide_true,if_true,true_and,and_self];rw [wrap_id (by omega) (by omega)]
   rfl
  ·simp only [c,c2,decide_true,decide_false,if_true,true_and,false_and,and_self]
   rfl
 ·simp only [c,decide_false,false_and]
  rfl
theorem brought_ev (n lo hi:Int):Ev (fun k=>spec_Brought.f k n lo hi) (mx lo (mn n hi)):=by
 unfold spec_Brought.f;unfold mx mn;by_cases c:hi < lo
 ·refine Ev.congr (fun k=>by rw [if_pos c]) (Ev.step (f:=fun _=>some lo) (fun k=>by simp only [spec_Brought.j0];rfl) ?_);have e:(if lo < (if hi < n then hi else n) then (if hi < n then hi else n) else lo)=lo:=by repeat' split <;> omega
  rw [e];exact Ev.now _
 ·by_cases c2:n < lo
  ·refine Ev.congr (fun k=>by rw [if_neg c,show decide (n < lo)=true from decide_eq_true c2]) (Ev.step (f:=fun _=>some lo) (fun k=>by simp only [spec_Brought.j0];rfl) ?_);have e:(if lo < (if hi < n then hi else n) then (if hi < n then hi else n) else lo)=lo:=by repeat' split <;> omega
   rw [e];exact Ev.now _
  ·refine Ev.congr (fun k=>by rw [if_neg c,show decide (n < lo)=false from decide_eq_false c2]) (Ev.step (f:=fun _=>if n > hi then some hi else some n) (fun k=>by simp only [spec_Brought.j0];rfl) ?_);by_cases c3:n > hi
   ·have e:(if lo < (if hi < n then hi else n) then (if hi < n then hi else n) else lo)=hi:=by repeat' split <;> omega
    rw [e];simp only [c3,if_true];exact Ev.now _
   ·have e:(if lo < (if hi < n then hi else n) then (if hi < n then hi else n) else lo)=n:=by repeat' split <;> omega
    rw [e];simp only [c3,if_false];exact Ev.now _
theorem mx0 {n hi:Int} (h:0≤hi):0≤mx 0 (mn n hi)∧mx 0 (mn n hi)≤hi:=by unfold mx mn;repeat' split <;> omega
def dotv (w h:Int) (d:ByteArray) (x y:Int):Int:=bt d (mx 0 (mn y (h - 1)) * w + mx 0 (mn x (w - 1)))
theorem spot {w h X Y:Int} (hw:1≤w) (hX:0≤X∧X≤w - 1) (hY:0≤Y∧Y≤h - 1):0≤Y * w∧0≤Y * w + X∧Y * w + X < w * h:=by
 have h1:0≤Y * w:=Int.mul_nonneg hY.1 (by omega);have h2:Y * w≤(h - 1) * w:=Int.mul_le_mul_of_nonneg_right hY.2 (by omega);have h3:(h - 1) * w=w * h - w:=by rw [Int.sub_mul,Int.one_mul,Int.mul_comm]
 omega
theorem dotv_range (w h:Int) (d:ByteArray) (x y:Int):0≤dotv w h d x y∧dotv w h d x y≤255:=bt_range _ _
theorem dot_eq (w h:Int) (d:ByteArray) (x y:Int) (hp:PicR w h d):impl_Pic_dot.f w h d x y=some (dotv w h d x y):=by
 obtain ⟨hw,hh,hd⟩:=hp;unfold impl_Pic_dot.f impl_Brought.f;simp only [Option.bind_some];rw [wrap_id (x:=h - 1) (by omega) (by omega),wrap_id (x:=w - 1) (by omega) (by omega)];have hX:=mx0 (n:=x) (hi:=w - 1) (by omega);have hY:=mx0 (n:=y) (hi:=h - 1) (by omega);have hs:=spot hw.1 hX hY;have hm:=small_mul (w:=w) (h:=h) (a:=256) (b:=256) (by omega) hw.2 (by omega) hh.2;rw [wrap_id (x:=mx 0 (mn y (h - 1)) * w) (by omega) (by omega),wrap_id (x:=mx 0 (mn y (h - 1)) * w + mx 0 (mn x (w - 1))) (by omega) (by omega)];have hb:=dotv_range w h d x y;rw [if_pos hs.2.1,if_pos (by omega)];unfold dotv at hb ⊢;rw [wrap_id (by omega) (by omega)]
theorem sdot_ev (w h:Int) (d:ByteArray) (x y:Int):Ev (fun k=>spec_DotAt.f k w h d x y) (if PicR w h d then dotv w h d x y else -1):=by
 unfold spec_DotAt.f;rw [pic_some];simp only [Option.bind_some];by_cases c:PicR w h d
 ·simp only [c,decide_true,if_true];obtain ⟨hw,hh,hd⟩:=c;rw [wrap_id (x:=h - 1) (by omega) (by omega),wrap_id (x:=w - 1) (by omega) (by omega)];refine Ev.bind (brought_ev y 0 (h - 1)) (Ev.bind (brought_ev x 0 (w - 1)) ?_);have hX:=mx0 (n:=x) (hi:=w - 1) (by omega);have hY:=mx0 (n:=y) (hi:=h - 1) (by omega);have hs:=spot hw.1 hX hY;have hm:=small_mul (w:=w) (h:=h) (a:=256) (b:=256) (by omega) hw.2 (by omega) hh.2;rw [wrap_id (x:=mx 0 (mn y (h - 1)) * w) (by omega) (by omega),wrap_id (x:=mx 0 (mn y (h - 1)) * w + mx 0 (mn x (w - 1))) (by omega) (by omega)];have hb:=dotv_range w h d x y;rw [if_pos hs.2.1,if_pos (by omega)];unfold dotv at hb ⊢;rw [wrap_id (by omega) (by omega)];exact Ev.now _
 ·simp only [c,decide_false,Bool.false_eq_true,if_false];exact Ev.now _
theorem sdots_ev (l:List Int) (hl:l.length≤17592186043904):Ev (fun k=>spec_l13Dots.f k l) (decide (l.length=64) && allB 0 255 l):=by
 unfold spec_l13Dots.f;by_cases hn:l.length=64
 ·have H:∀ i:Nat,i≤64→Ev (fun k=>spec_l13Dots.l0 k l (i:Int)) (allB 0 255 (l.drop i)):=by
   refine down 64 ?_ ?_
   ·refine Ev.step (f:=fun _=>some true) (fun k=>?_) ?_
    ·simp only [spec_l13Dots.l0];rw [if_neg (by omega)]
    ·rw [← hn,List.drop_length];exact Ev.now _
   ·intro i h1 h;have h2:i < l.length:=by omega
    rw [drop_cons h2,allB_cons];by_cases c:0≤l[i]∧l[i]≤255
    ·rw [decide_eq_true c,Bool.true_and];refine Ev.step (fun k=>?_) h;simp only [spec_l13Dots.l0];rw [if_pos (by omega),if_pos (by omega),if_pos (by omega),rd_nat l i h2,in_eq,Option.bind_some,if_pos (decide_eq_true c),wrap_id (by omega) (by omega),cast1]
    ·rw [decide_eq_false c,Bool.false_and];refine Ev.step (f:=fun _=>some false) (fun k=>?_) (Ev.now _);simp only [spec_l13Dots.l0];rw [if_pos (by omega),if_pos (by omega),if_pos (by omega),rd_nat l i h2,in_eq,Option.bind_some,if_neg (by simpa using c)]
  refine Ev.congr (fun k=>by rw [if_pos (by omega)]) ?_;rw [decide_eq_true hn,Bool.true_and];exact H 0 (by omega)
 ·rw [decide_eq_false hn,Bool.false_and];exact Ev.congr (f:=fun _=>some false) (fun k=>by rw [if_neg (by omega)]) (Ev.now _)
theorem sjoin_loop (g d:List Int) (h:JOk g d):∀ i:Nat,i≤64→Ev (fun k=>spec_Joined.l0 k g d ((joinv g d).take i) (i:Int)) (joinv g d):=by
 have hj:=joinv_len h;obtain ⟨⟨hg,bg⟩,hd,bd⟩:=h;refine down 64 ?_ ?_
 ·refine Ev.step (f:=fun _=>some (joinv g d)) (fun k=>?_) (Ev.now _);simp only [spec_Joined.l0];rw [if_neg (by omega),List.take_of_length_le (by omega)]
 ·intro i hi hh;have r1:=allB_iff.1 bg _ (List.getElem_mem (show i < g.length by omega));have r2:=allB_iff.1 bd _ (List.getElem_mem (show i < d.length by omega));have e:=joinv_get g d i (by omega) (by omega) (by omega);have hb:=brought_ev (g[i] + d[i]) 0 255;rw [← e] at hb;refine Ev.step (f:=fun k=>(spec_Brought.f k (g[i] + d[i]) 0 255).bind fun t=>(if ((joinv g d).take i).length < 17592186044416 then (spec_Joined.l0 k g d ((joinv g d).take i ++ [t]) ((i + 1:Nat):Int)) else (none))) (fun k=>?_) (Ev.bind hb ?_)
  ·simp only [spec_Joined.l0];rw [if_pos (by omega),if_pos (by omega),if_pos (by omega),if_pos (by omega),rd_nat g i (by omega),rd_nat d i (by omega),wrap_id (x:=g[i] + d[i]) (by omega) (by omega),wrap_id (x:=(i:Int) + 1) (by omega) (by omega),cast1]
  ·refine Ev.congr (fun k=>?_) hh;rw [if_pos (by simp;omega),← List.take_succ_eq_append_getElem (by omega)]
theorem sjoined_ev (g d:List Int) (hg:g.length≤17592186043904) (hd:d.length≤17592186043904):Ev (fun k=>spec_Joined.f k g d) (if JOk g d then joinv g d else []):=by
 unfold spec_Joined.f;simp only [Option.bind_some];have hbad:Ev (fun k=>spec_Joined.j0 k g d [] true) []:=Ev.step (f:=fun _=>some []) (fun k=>by simp only [spec_Joined.j0];rfl) (Ev.now _);refine Ev.bind (sdots_ev g hg) ?_;by_cases c1:g.length=64∧allB 0 255 g=true
 ·rw [decide_eq_true c1.1,c1.2];simp only [Bool.and_self,if_true];refine Ev.bind (all_ev d 64 10000000 hd (by omega) (by omega)) ?_;rw [len_decj d 64 64 rfl];by_cases c2:d.length=64∧allB (-10000000) 10000000 d=true
  ·rw [if_pos ⟨c1,c2⟩,decide_eq_true c2.1,c2.2];simp only [Bool.and_self,Bool.not_true];exact Ev.step (fun k=>by simp only [spec_Joined.j0,Bool.false_eq_true,if_false];rfl) (sjoin_loop g d ⟨c1,c2⟩ 0 (by omega))
  ·rw [if_neg (fun h=>c2 h.2),and_false' rfl c2];simp only [Bool.not_false];exact hbad
 ·rw [if_neg (fun h=>c1 h.1),and_false' rfl c1];simp only [Bool.false_eq_true,if_false];exact hbad
theorem list16 (x:List Int) (h:x.length=16):∃ a0 a1 a2 a3 a4 a5 a6 a7 a8 a9 a10 a11 a12 a13 a14 a15,x=[a0,a1,a2,a3,a4,a5,a6,a7,a8,a9,a10,a11,a12,a13,a14,a15]:=by
 match x,h with
 | [a0,a1,a2,a3,a4,a5,a6,a7,a8,a9,a10,a11,a12,a13,a14,a15],_=>exact ⟨a0,a1,a2,a3,a4,a5,a6,a7,a8,a9,a10,a11,a12,a13,a14,a15,rfl⟩
theorem len_dec4 (l:List Int) (n:Nat) (m:Int) (h:m=(n:Int)):decide ((l.length:Int)=m)=decide (l.length=n):=by rw [decide_eq_decide];omega
theorem and_false4 {b:Bool} {p:Prop} [Decidable p] (h:¬ (p∧b=true)):(decide p && b)=false:=by
 rw [Bool.eq_false_iff];intro h';rw [Bool.and_eq_true,decide_eq_true_eq] at h';exact h h'
theorem turnedL_len (T x):(turnedL T x).length=x.length:=by simp [turnedL,colsT,rowsT,colT,rowT]
theorem Ev.from {α:Type} {f:Nat→Option α} {v:α} (n:Nat) (h:∀ k,f (k + n)=some v):Ev f v:=by
 refine ⟨n,fun k hk=>?_⟩;have e:=h (k - n)
 rwa [Nat.sub_add_cancel hk] at e
def down64 (x:Int):Int:=(x + 32) / 64
def settledL (l:List Int):List Int:=l.map down64
theorem settledL_len (l:List Int):(settledL l).length=l.length:=by simp [settledL]
theorem down_eq {x:Int} (h0:-1000000000000≤x) (h1:x≤1000000000000) :
  (if (64:Int)=0 then (none:Option Int) else (if (Int.tmod (wrap64 (x + 32)) 64) < 0 then (some (wrap64 ((wrap64 (Int.tdiv (wrap64 (x + 32)) 64)) - 1))) else (some (wrap64 (Int.tdiv (wrap64 (x + 32)) 64)))))=some (down64 x):=by
 rw [if_neg (by omega),wrap_id (x:=x + 32) (by omega) (by omega)];unfold down64;generalize hy:x + 32=y;have h2:-1000000000100≤y:=by omega
 have h3:y≤1000000000100:=by omega
 clear hy h0 h1;have hd:Int.tdiv y 64 * 64 + Int.tmod y 64=y:=Int.tdiv_mul_add_tmod y 64;by_cases c:Int.tmod y 64 < 0
 ·have hl:-64 < Int.tmod y 64:=by
   have:=Int.lt_tmod_of_pos y (b:=64) (by omega);omega
  rw [if_pos c,wrap_id (x:=Int.tdiv y 64) (by omega) (by omega),wrap_id (by omega) (by omega)]
  congr 1
  omega
 ·have hl:Int.tmod y 64 < 64:=Int.tmod_lt_of_pos y (by omega);rw [if_neg c,wrap_id (x:=Int.tdiv y 64) (by omega) (by omega)]
  congr 1
  omega
/-- A row that is settled up to i. -/
def setTo (l:List Int) (i:Nat):List Int:=(settledL l).take i ++ l.drop i
theorem setTo_len (l:List Int) (i:Nat) (h:i≤l.length):(setTo l i).length=l.length:=by
 unfold setTo;rw [List.length_append,List.length_take,List.length_drop,settledL_len];omega
theorem setTo_rd (l:List Int) (i:Nat) (h:i < l.length):rd (setTo l i) (i:Int)=l[i]:=by
 unfold rd setTo;rw [Int.toNat_natCast,List.getD_eq_getElem?_getD,List.getElem?_append_right (by rw [List.length_take,settledL_len];omega),List.length_take,settledL_len,Nat.min_eq_left (by omega),Nat.sub_self,List.getElem?_drop,Nat.add_zero,List.getElem?_eq_getElem h]
 rfl
theorem setTo_set (l:List Int) (i:Nat) (h:i < l.length):(setTo l i).set i (down64 l[i])=setTo l (i + 1):=by
 have e:down64 l[i]=(settledL l)[i]'(by rw [settledL_len];exact h):=by simp [settledL]
 rw [e];exact mix_set (settledL l) l i (by rw [settledL_len];exact h) h
theorem setTo_end (l:List Int):setTo l l.length=settledL l:=by
 unfold setTo;rw [List.drop_length,List.append_nil,List.take_of_length_le (by rw [settledL_len];omega)]
theorem settled_ev (l:List Int) (hl:l.length≤17592186043904) (hb:∀ x ∈ l,-1000000000000≤x∧x≤1000000000000):Ev (fun k=>impl_settled.f k l) (settledL l):=by
 have H:∀ i,i≤l.length→Ev (fun k=>impl_settled.l0 k (setTo l i) (l.length:Int) (i:Int)) (settledL l):=by
  refine down l.length ?_ ?_
  ·refine Ev.step (f:=fun _=>some (settledL l)) (fun k=>?_) (Ev.now _);simp only [impl_settled.l0];rw [if_neg (by omega),setTo_end]
  ·intro i hi h;have hx:=hb l[i] (List.getElem_mem _);refine Ev.step (fun k=>?_) h;simp only [impl_settled.l0];rw [if_pos (by omega),if_pos (by omega),if_pos (by rw [setTo_len l i (by omega)];omega),setTo_rd l i hi];unfold impl_floor.f;rw [down_eq hx.1 hx.2,Option.bind_some,Int.toNat_natCast,setTo_set l i hi,wrap_id (by omega) (by omega),cast1]
 have h0:=H 0 (by omega);unfold impl_settled.f;exact h0
def FbOk (x:List Int):Prop:=x.length=16∧allB (-10000000) 10000000 x=true
instance (x:List Int):Decidable (FbOk x):=by unfold FbOk;infer_instance
def fbv (x:List Int):List Int:=if FbOk x then settledL (turnedL b4 x) else []
theorem fl2_small {x M:Int} (hM:M≤1000000000000) (h0:-M≤x) (h1:x≤M):-M - 1≤fl2 x∧fl2 x≤M:=by
 unfold fl2;have hd:Int.tdiv x 2 * 2 + Int.tmod x 2=x:=Int.tdiv_mul_add_tmod x 2;have hl:-2 < Int.tmod x 2:=by have:=Int.lt_tmod_of_pos x (b:=2) (by omega);omega
 have hr:Int.tmod x 2 < 2:=Int.tmod_lt_of_pos x (by omega);generalize Int.tmod x 2=m at hd hl hr;generalize Int.tdiv x 2=q at hd
 split
 ·rw [wrap_id (x:=q) (by omega) (by omega),wrap_id (by omega) (by omega)];omega
 ·rw [wrap_id (x:=q) (by omega) (by omega)];omega
theorem b4_small {a b c d M:Int} (hM:M≤200000000000) (ha:-M≤a∧a≤M) (hb:-M≤b∧b≤M) (hc:-M≤c∧c≤M) (hd:-M≤d∧d≤M) :
  (-(4 * M + 4)≤(b4 a b c d).1∧(b4 a b c d).1≤4 * M + 4)∧(-(4 * M + 4)≤(b4 a b c d).2.1∧(b4 a b c d).2.1≤4 * M + 4)∧(-(4 * M + 4)≤(b4 a b c d).2.2.1∧(b4 a b c d).2.2.1≤4 * M + 4)∧(-(4 * M + 4)≤(b4 a b c d).2.2.2∧(b4 a b c d).2.2.2≤4 * M + 4):=by
 have h1:=fl2_small (x:=b) (M:=M) (by omega) hb.1 hb.2;have h2:=fl2_small (x:=d) (M:=M) (by omega) hd.1 hd.2;unfold b4;generalize fl2 b=p at h1;generalize fl2 d=q at h2;dsimp only;rw [wrap_id (x:=a + c) (by omega) (by omega),wrap_id (x:=a - c) (by omega) (by omega),wrap_id (x:=b + q) (by omega) (by omega),wrap_id (x:=p - d) (by omega) (by omega)];rw [wrap_id (x:=a + c + (b + q)) (by omega) (by omega),wrap_id (x:=a - c + (p - d)) (by omega) (by omega),wrap_id (x:=a - c - (p - d)) (by omega) (by omega),wrap_id (x:=a + c - (b + q)) (by omega) (by omega)];omega
def InM (M:Int) (x:List Int):Prop:=∀ v ∈ x,-M≤v∧v≤M
theorem rd_in {M:Int} {x:List Int} (hM:0≤M) (h:InM M x) (i:Int):-M≤rd x i∧rd x i≤M:=by
 unfold rd;rw [List.getD_eq_getElem?_getD];cases e:x[i.toNat]? with
 | none=>simp;omega
 | some v=>exact h v (List.mem_of_getElem? e)
theorem set_in {M:Int} {x:List Int} (h:InM M x) (i:Nat) {v:Int} (hv:-M≤v∧v≤M):InM M (x.set i v):=by
 intro u hu;rcases List.mem_or_eq_of_mem_set hu with h1 | h1
 ·exact h u h1
 ·rw [h1];exact hv
theorem grow_in {M N:Int} {x:List Int} (h:InM M x) (hN:M≤N):InM N x:=fun v hv=>by have:=h v hv;omega
theorem rowT_in {M:Int} {x:List Int} (hM:0≤M) (hM':M≤200000000000) (h:InM M x) (r:Nat):InM (4 * M + 4) (rowT b4 x r):=by
 unfold rowT;have s:=b4_small hM' (rd_in hM h r) (rd_in hM h (r + 1:Nat)) (rd_in hM h (r + 2:Nat)) (rd_in hM h (r + 3:Nat));exact set_in (set_in (set_in (set_in (grow_in h (by omega)) _ s.1) _ s.2.1) _ s.2.2.1) _ s.2.2.2
theorem colT_in {M:Int} {x:List Int} (hM:0≤M) (hM':M≤200000000000) (h:InM M x) (r:Nat):InM (4 * M + 4) (colT b4 x r):=by
 unfold colT;have s:=b4_small hM' (rd_in hM h r) (rd_in hM h (r + 4:Nat)) (rd_in hM h (r + 8:Nat)) (rd_in hM h (r + 12:Nat));exact set_in (set_in (set_in (set_in (grow_in h (by omega)) _ s.1) _ s.2.1) _ s.2.2.1) _ s.2.2.2
theorem turned_small {x:List Int} (h:FbOk x):∀ v ∈ turnedL b4 x,-1000000000000≤v∧v≤1000000000000:=by
 have h0:InM 10000000 x:=fun v hv=>by have:=allB_iff.1 h.2 v hv;omega
 have h1:=rowT_in (by omega) (by omega) h0 (4 * 0);have h2:=rowT_in (by omega) (by omega) h1 (4 * 1);have h3:=rowT_in (by omega) (by omega) h2 (4 * 2);have h4:=rowT_in (by omega) (by omega) h3 (4 * 3);have h5:=colT_in (by omega) (by omega) h4 0;have h6:=colT_in (by omega) (by omega) h5 1;have h7:=colT_in (by omega) (by omega) h6 2;have h8:=colT_in (by omega) (by omega) h7 3;exact grow_in h8 (by omega)
theorem fourback_ev (x:List Int) (hx:x.length≤17592186043904):Ev (fun k=>impl_FourBack.f k x) (fbv x):=by
 unfold impl_FourBack.f fbv;refine Ev.bind (areIn_ev x 16 (-10000000) 10000000 hx) ?_;rw [len_dec4 x 16 16 rfl];by_cases c:FbOk x
 ·rw [if_pos c,decide_eq_true c.1,c.2];simp only [Bool.and_self,if_true];simp only [if_pos c.1];exact Ev.bind (settled_ev _ (by rw [turnedL_len,c.1];omega) (turned_small c)) (Ev.now _)
 ·rw [if_neg c,and_false4 c];simp only [Bool.false_eq_true,if_false];exact Ev.now _
def backsB:Nat→List Int→List Int→Int→Option (List Int)
 | 0,_,_,_=>none
 | k + 1,x0,x3,x4=>if x4 < 4 then (if 0≤(wrap64 (4 * x4)) then (if (wrap64 (4 * x4)) < (x0.length:Int) then (if 0≤(wrap64 ((wrap64 (4 * x4)) + 1)) then (if (wrap64 ((wrap64 (4 * x4)) + 1)) < (x0.length:Int) then (if 0≤(wrap64 ((wrap64 (4 * x4)) + 2)) then (if (wrap64 ((wrap64 (4 * x4)) + 2)) < (x0.length:Int) then (if 0≤(wrap64 ((wrap64 (4 * x4)) + 3)) then (if (wrap64 ((wrap64 (4 * x4)) + 3)) < (x0.length:Int) then ((some (fl2 (rd x0 (wrap64 ((wrap64 (4 * x4)) + 1))))).bind fun t135=>((some (fl2 (rd x0 (wrap64 ((wrap64 (4 * x4)) + 3))))).bind fun t136=>((some (([wrap64 ((wrap64 ((rd x0 (wrap64 (4 * x4))) + (rd x0 (wrap64 ((wrap64 (4 * x4)) + 2))))) + (wrap64 ((rd x0 (wrap64 ((wrap64 (4 * x4)) + 1))) + t136))),wrap64 ((wrap64 ((rd x0 (wrap64 (4 * x4))) - (rd x0 (wrap64 ((wrap64 (4 * x4)) + 2))))) + (wrap64 (t135 - (rd x0 (wrap64 ((wrap64 (4 * x4)) + 3)))))),wrap64 ((wrap64 ((rd x0 (wrap64 (4 * x4))) - (rd x0 (wrap64 ((wrap64 (4 * x4)) + 2))))) - (wrap64 (t135 - (rd x0 (wrap64 ((wrap64 (4 * x4)) + 3)))))),wrap64 ((wrap64 ((rd x0 (wrap64 (4 * x4))) + (rd x0 (wrap64 ((wrap64 (4 * x4)) + 2))))) - (wrap64 ((rd x0 (wrap64 ((wrap64 (4 * x4)) + 1))) + t136)))]:List Int):List Int)).bind fun y137=>(if x3.length + y137.length < 17592186044416 then (backsB k x0 (x3 ++ y137) (wrap64 (x4 + 1))) else (none))))) else (none)) else (none)) else (none)) else (none)) else (none)) else (none)) else (none)) else (none)) else (some x3)
theorem sdown2 (x:Int):spec_l09Down.f x 2=some (fl2 x):=by
 unfold spec_l09Down.f fl2;rw [if_neg (by decide)]
 split <;> rfl
theorem backs_eq:∀ k x0 x3 x4,spec_l09Backs.l0 k x0 x3 x4=backsB k x0 x3 x4
 | 0,_,_,_=>rfl
 | k + 1,x0,x3,x4=>by simp only [spec_l09Backs.l0,backsB,sdown2,backs_eq k]
theorem backsf_eq (k:Nat) (x:List Int):spec_l09Backs.f k x=backsB k x [] 0:=backs_eq k x [] 0
def sfbF (k:Nat) (x:List Int):Option (List Int):=(backsB k x [] 0).bind fun t147=>((spec_l09Flip.f k t147).bind fun t150=>((backsB k t150 [] 0).bind fun t153=>((spec_l09Flip.f k t153).bind fun t156=>(some t156))))
theorem sfourback16 (a0 a1 a2 a3 a4 a5 a6 a7 a8 a9 a10 a11 a12 a13 a14 a15:Int) (k:Nat):sfbF (k + 17) [a0,a1,a2,a3,a4,a5,a6,a7,a8,a9,a10,a11,a12,a13,a14,a15]=some (turnedL b4 [a0,a1,a2,a3,a4,a5,a6,a7,a8,a9,a10,a11,a12,a13,a14,a15]):=by kernel_rfl
theorem sfb_loop (l:List Int) (hl:l.length=16) (hb:∀ x ∈ l,-1000000000000≤x∧x≤1000000000000):Ev (fun k=>spec_FourBack.l0 k l 0) (settledL l):=by
 have H:∀ i,i≤l.length→Ev (fun k=>spec_FourBack.l0 k (setTo l i) (i:Int)) (settledL l):=by
  refine down l.length ?_ ?_
  ·refine Ev.step (f:=fun _=>some (settledL l)) (fun k=>?_) (Ev.now _);simp only [spec_FourBack.l0];rw [if_neg (by omega),setTo_end]
  ·intro i hi h;have hx:=hb l[i] (List.getElem_mem _);refine Ev.step (fun k=>?_) h;simp only [spec_FourBack.l0];rw [if_pos (by omega),if_pos (by omega),if_pos (by rw [setTo_len l i (by omega)];omega),setTo_rd l i hi];unfold spec_l09Down.f;rw [down_eq hx.1 hx.2,Option.bind_some,Int.toNat_natCast,setTo_set l i hi,wrap_id (by omega) (by omega),cast1]
 exact H 0 (by omega)
theorem sfourback_ev (x:List Int) (hx:x.length≤17592186043904):Ev (fun k=>spec_FourBack.f k x) (fbv x):=by
 unfold spec_FourBack.f fbv;refine Ev.bind (all_ev x 16 10000000 hx (by omega) (by omega)) ?_;rw [len_dec4 x 16 16 rfl];by_cases c:FbOk x
 ·rw [if_pos c,decide_eq_true c.1,c.2];simp only [Bool.and_self,if_true,backsf_eq];have hs:=sfb_loop _ (by rw [turnedL_len,c.1]) (turned_small c);obtain ⟨a0,a1,a2,a3,a4,a5,a6,a7,a8,a9,a10,a11,a12,a13,a14,a15,rfl⟩:=list16 x c.1;have h16:Ev (fun k=>sfbF k [a0,a1,a2,a3,a4,a5,a6,a7,a8,a9,a10,a11,a12,a13,a14,a15]) (turnedL b4 [a0,a1,a2,a3,a4,a5,a6,a7,a8,a9,a10,a11,a12,a13,a14,a15]):=Ev.from 17 (fun k=>sfourback16 a0 a1 a2 a3 a4 a5 a6 a7 a8 a9 a10 a11 a12 a13 a14 a15 k);generalize turnedL b4 [a0,a1,a2,a3,a4,a5,a6,a7,a8,a9,a10,a11,a12,a13,a14,a15]=TB at h16 hs;generalize [a0,a1,a2,a3,a4,a5,a6,a7,a8,a9,a10,a11,a12,a13,a14,a15]=x0 at h16;refine Ev.congr (f:=fun k=>(sfbF k x0).bind fun t=>spec_FourBack.l0 k t 0) (fun k=>?_) (Ev.bind h16 hs);unfold sfbF;simp only [Option.bind_assoc,Option.bind_some]
 ·rw [if_neg c,and_false4 c];simp only [Bool.false_eq_true,if_false];exact Ev.now _
def ord4:List Int:=[0,1,4,8,5,2,3,6,9,12,13,10,7,11,14,15]
def ord8:List Int:=[0,1,8,16,9,2,3,10,17,24,32,25,18,11,4,5,12,19,26,33,40,48,41,34,27,20,13,6,7,14,21,28,35,42,49,56,57,50,43,36,29,22,15,23,30,37,44,51,58,59,52,45,38,31,39,46,53,60,61,54,47,55,62,63]
def ordOf (side:Int):List Int:=if side=4 then ord4 else ord8
/-- A side and its number of places. -/
def SideN (side:Int) (n:Nat):Prop:=side=4∧n=16∨side=8∧n=64
theorem ord_len {side:Int} {n:Nat} (h:SideN side n):(ordOf side).length=n:=by rcases h with ⟨rfl,rfl⟩ | ⟨rfl,rfl⟩ <;> rfl
theorem ord_in {side:Int} {n:Nat} (h:SideN side n):∀ x ∈ ordOf side,0≤x∧x < (n:Int):=by
 rcases h with ⟨rfl,rfl⟩ | ⟨rfl,rfl⟩
 ·decide +kernel
 ·decide +kernel
theorem order4:impl_scanOrder.f 100 4=some ord4:=by decide +kernel
theorem order8:impl_scanOrder.f 300 8=some ord8:=by decide +kernel
theorem order_ev {side:Int} {n:Nat} (h:SideN side n):Ev (fun k=>impl_scanOrder.f k side) (ordOf side):=by
 rcases h with ⟨rfl,rfl⟩ | ⟨rfl,rfl⟩
 ·exact Ev.of (fun k=>impl_scanOrder.mono _ _) order4
 ·exact Ev.of (fun k=>impl_scanOrder.mono _ _) order8
theorem sat4:∀ j:Fin 16,spec_ScanAt.f 200 4 (j.val:Int)=some (rd ord4 (j.val:Int)):=by decide +kernel
theorem sat8:∀ j:Fin 64,spec_ScanAt.f 400 8 (j.val:Int)=some (rd ord8 (j.val:Int)):=by decide +kernel
theorem sat_ev {side:Int} {n:Nat} (h:SideN side n) (i:Nat) (hi:i < n):Ev (fun k=>spec_ScanAt.f k side (i:Int)) (rd (ordOf side) (i:Int)):=by
 rcases h with ⟨rfl,rfl⟩ | ⟨rfl,rfl⟩
 ·exact Ev.of (fun k=>spec_ScanAt.mono _ _ _) (sat4 ⟨i,hi⟩)
 ·exact Ev.of (fun k=>spec_ScanAt.mono _ _ _) (sat8 ⟨i,hi⟩)
def ScOk (side:Int) (l:List Int):Prop:=(side=4∧l.length=16)∨(side=8∧l.length=64)
instance (side:Int) (l:List Int):Decidable (ScOk side l):=by unfold ScOk;infer_instance
theorem scok_side {side:Int} {l:List Int} (h:ScOk side l):SideN side l.length:=by rcases h with ⟨rfl,e⟩ | ⟨rfl,e⟩ <;> rw [e] <;> simp [SideN]
/-- The list that comes of the order of the scan, from place i on. -/
def unsc (side:Int) (l:List Int):Nat→Nat→List Int→List Int
 | 0,_,out=>out
 | d + 1,i,out=>unsc side l d (i + 1) (out.set (rd (ordOf side) (i:Int)).toNat (rd l (i:Int)))
theorem unsc_len (side:Int) (l:List Int) (d:Nat):∀ i out,(unsc side l d i out).length=out.length:=by
 induction d with
 | zero=>intro i out;rfl
 | succ d ih=>intro i out;simp only [unsc];rw [ih];simp
def unscv (side:Int) (l:List Int):List Int:=unsc side l l.length 0 (List.replicate l.length 0)
theorem unscv_len (side:Int) (l:List Int):(unscv side l).length=l.length:=by unfold unscv;rw [unsc_len];simp
theorem unscanned_loop {side:Int} {l:List Int} (h:SideN side l.length):∀ i,i≤l.length→∀ out:List Int,out.length=l.length→Ev (fun k=>impl_Unscanned.l0 k l out (ordOf side) ((ordOf side).length:Int) (i:Int)) (unsc side l (l.length - i) i out,true):=by
 have hn:=ord_len h;have hlen:l.length≤64:=by rcases h with ⟨_,e⟩ | ⟨_,e⟩ <;> omega
 refine down l.length ?_ ?_
 ·intro out _;rw [Nat.sub_self];refine Ev.step (f:=fun _=>some (out,true)) (fun k=>?_) (Ev.now _);simp only [impl_Unscanned.l0];rw [if_neg (by omega)]
 ·intro i hi hh out ho;have e1:l.length - i=(l.length - (i + 1)) + 1:=by omega
  rw [e1];have hb:0≤rd (ordOf side) (i:Int)∧rd (ordOf side) (i:Int) < (l.length:Int):=by
   rw [rd_nat _ i (by omega)];exact ord_in h _ (List.getElem_mem (by omega))
  refine Ev.step (fun k=>?_) (hh (out.set (rd (ordOf side) (i:Int)).toNat (rd l (i:Int))) (by simpa using ho));simp only [impl_Unscanned.l0];rw [if_pos (by omega),if_pos (by omega),if_pos (by omega),if_pos (by omega),if_pos hb.1,if_pos (by omega),wrap_id (by omega) (by omega),cast1]
theorem unscanned_ev (side:Int) (l:List Int):Ev (fun k=>impl_Unscanned.f k side l) (if ScOk side l then (unscv side l,true) else ([],false)):=by
 unfold impl_Unscanned.f;have hbad:Ev (fun k=>impl_Unscanned.j0 k side l true) ([],false):=Ev.step (f:=fun _=>some ([],false)) (fun k=>by simp only [impl_Unscanned.j0];rfl) (Ev.now _);have hok:ScOk side l→Ev (fun k=>impl_Unscanned.j0 k side l false) (unscv side l,true):=fun h=>by
  have hlen:l.length≤64:=by rcases h with ⟨_,e⟩ | ⟨_,e⟩ <;> omega
  refine Ev.step (fun k=>by simp only [impl_Unscanned.j0,Bool.false_eq_true,if_false];rw [if_pos (by omega),if_pos (by simp;omega),Int.toNat_natCast]) (Ev.bind (order_ev (scok_side h)) ?_);exact unscanned_loop (scok_side h) 0 (by omega) _ (by simp)
 by_cases c4:side=4
 ·subst c4;rw [wrap_id (x:=4 * 4) (by omega) (by omega)];by_cases c:l.length=16
  ·rw [if_pos (.inl ⟨rfl,c⟩)];simp only [if_true,c,show (((16:Nat):Int) != 4 * 4)=false from by decide];exact hok (.inl ⟨rfl,c⟩)
  ·rw [if_neg (by rintro (⟨_,h⟩ | ⟨h,_⟩);exact c h;exact absurd h (by decide))];simp only [if_true,show ((l.length:Int) != 4 * 4)=true from by rw [bne_iff_ne];omega];exact hbad
 ·by_cases c8:side=8
  ·subst c8;simp only [if_neg c4];rw [wrap_id (x:=8 * 8) (by omega) (by omega)];by_cases c:l.length=64
   ·rw [if_pos (.inr ⟨rfl,c⟩)];simp only [if_true,c,show (((64:Nat):Int) != 8 * 8)=false from by decide];exact hok (.inr ⟨rfl,c⟩)
   ·rw [if_neg (by rintro (⟨h,_⟩ | ⟨_,h⟩);exact absurd h (by decide);exact c h)];simp only [if_true,show ((l.length:Int) != 8 * 8)=true from by rw [bne_iff_ne];omega];exact hbad
  ·rw [if_neg (by rintro (⟨h,_⟩ | ⟨h,_⟩);exact c4 h;exact c8 h)];simp only [if_neg c4,if_neg c8];exact hbad
theorem sunscanned_loop {side:Int} {l:List Int} (h:SideN side l.length):∀ i,i≤l.length→∀ out:List Int,out.length=l.length→Ev (fun k=>spec_Unscanned.l0 k side l out (i:Int)) (unsc side l (l.length - i) i out,true):=by
 have hn:=ord_len h;have hlen:l.length≤64:=by rcases h with ⟨_,e⟩ | ⟨_,e⟩ <;> omega
 have hsq:wrap64 (side * side)=(l.length:Int):=by rcases h with ⟨rfl,e⟩ | ⟨rfl,e⟩ <;> rw [e] <;> decide +kernel
 refine down l.length ?_ ?_
 ·intro out _;rw [Nat.sub_self];refine Ev.step (f:=fun _=>some (out,true)) (fun k=>?_) (Ev.now _);simp only [spec_Unscanned.l0];rw [hsq,if_neg (by omega)]
 ·intro i hi hh out ho;have e1:l.length - i=(l.length - (i + 1)) + 1:=by omega
  rw [e1];have hb:0≤rd (ordOf side) (i:Int)∧rd (ordOf side) (i:Int) < (l.length:Int):=by
   rw [rd_nat _ i (by omega)];exact ord_in h _ (List.getElem_mem (by omega))
  refine Ev.step (fun k=>by simp only [spec_Unscanned.l0];rw [hsq,if_pos (by omega)]) (Ev.bind (sat_ev h i hi) ?_);refine Ev.congr (fun k=>?_) (hh (out.set (rd (ordOf side) (i:Int)).toNat (rd l (i:Int))) (by simpa using ho));rw [if_pos (by omega),if_pos (by omega),if_pos hb.1,if_pos (by omega),wrap_id (by omega) (by omega),cast1]
theorem sunscanned_ev (side:Int) (l:List Int):Ev (fun k=>spec_Unscanned.f k side l) (if ScOk side l then (unscv side l,true) else ([],false)):=by
 unfold spec_Unscanned.f;have hbad:Ev (fun k=>spec_Unscanned.j0 k side l true) ([],false):=Ev.step (f:=fun _=>some ([],false)) (fun k=>by simp only [spec_Unscanned.j0];rfl) (Ev.now _);have hok:ScOk side l→Ev (fun k=>spec_Unscanned.j0 k side l false) (unscv side l,true):=fun h=>by
  have hlen:l.length≤64:=by rcases h with ⟨_,e⟩ | ⟨_,e⟩ <;> omega
  refine Ev.step (fun k=>by simp only [spec_Unscanned.j0,Bool.false_eq_true,if_false];rw [if_pos (by omega),if_pos (by simp;omega),Int.toNat_natCast]) ?_;exact sunscanned_loop (scok_side h) 0 (by omega) _ (by simp)
 by_cases c4:side=4
 ·subst c4;rw [wrap_id (x:=4 * 4) (by omega) (by omega)];by_cases c:l.length=16
  ·rw [if_pos (.inl ⟨rfl,c⟩)];simp only [if_true,c,show (((16:Nat):Int) != 4 * 4)=false from by decide];exact hok (.inl ⟨rfl,c⟩)
  ·rw [if_neg (by rintro (⟨_,h⟩ | ⟨h,_⟩);exact c h;exact absurd h (by decide))];simp only [if_true,show ((l.length:Int) != 4 * 4)=true from by rw [bne_iff_ne];omega];exact hbad
 ·by_cases c8:side=8
  ·subst c8;simp only [if_neg c4];rw [wrap_id (x:=8 * 8) (by omega) (by omega)];by_cases c:l.length=64
   ·rw [if_pos (.inr ⟨rfl,c⟩)];simp only [if_true,c,show (((64:Nat):Int) != 8 * 8)=false from by decide];exact hok (.inr ⟨rfl,c⟩)
   ·rw [if_neg (by rintro (⟨h,_⟩ | ⟨_,h⟩);exact absurd h (by decide);exact c h)];simp only [if_true,show ((l.length:Int) != 8 * 8)=true from by rw [bne_iff_ne];omega];exact hbad
  ·rw [if_neg (by rintro (⟨h,_⟩ | ⟨h,_⟩);exact c4 h;exact c8 h)];simp only [if_neg c4,if_neg c8];exact hbad
def atq (k i:Nat):Nat:=8 * (k / 2 * 4 + i / 4) + k % 2 * 4 + i % 4
def qL (k:Nat):List Int:=(List.range 16).map fun i=>(atq k i:Int)
theorem qL_len (k:Nat):(qL k).length=16:=by simp [qL]
theorem atq_lt (k i:Nat) (hk:k < 4) (hi:i < 16):atq k i < 64:=by unfold atq;omega
theorem qL_rd (k i:Nat) (hi:i < 16):rd (qL k) (i:Int)=(atq k i:Int):=by
 rw [rd_nat _ i (by rw [qL_len];exact hi)];simp [qL]
theorem mix_rd (m l:List Int) (i:Nat) (hi:i < l.length) (h:m.length=l.length):rd (m.take i ++ l.drop i) (i:Int)=l[i]:=by
 unfold rd;rw [Int.toNat_natCast,List.getD_eq_getElem?_getD,List.getElem?_append_right (by rw [List.length_take];omega),List.length_take,Nat.min_eq_left (by omega),Nat.sub_self,List.getElem?_drop,Nat.add_zero,List.getElem?_eq_getElem hi]
 rfl
theorem atq_fin:∀ (k:Fin 4) (i:Fin 16),(wrap64 ((wrap64 ((wrap64 (8 * (wrap64 ((wrap64 ((wrap64 (Int.tdiv (k.val:Int) 2)) * 4)) + (wrap64 (Int.tdiv (i.val:Int) 4)))))) + (wrap64 ((Int.tmod (k.val:Int) 2) * 4)))) + (Int.tmod (i.val:Int) 4)))=(atq k.val i.val:Int):=by decide +kernel
theorem quarter_fin:∀ k:Fin 4,impl_quarter.f 60 (k.val:Int)=some (qL k.val):=by decide +kernel
theorem quarter_ev (k:Nat) (hk:k < 4):Ev (fun n=>impl_quarter.f n (k:Int)) (qL k):=Ev.of (fun n=>impl_quarter.mono _ _) (quarter_fin ⟨k,hk⟩)
def condB (q:Int) (l e:Bool):Bool:=decide (0≤q∧q≤40) && !(l && e)
theorem cond_val (a:Bool) (q:Int) (l e:Bool):impl_CondOk.f a q l e=some (condB q l e):=by
 unfold impl_CondOk.f condB;rw [within_eq,Option.bind_some];by_cases c:0≤q∧q≤40
 ·simp only [c,and_self,decide_true,if_true,Bool.true_and];cases l <;> cases e <;> rfl
 ·simp only [c,decide_false,Bool.false_eq_true,if_false,Bool.false_and]
theorem scond_val (a:Bool) (q:Int) (l e:Bool):spec_CondOk.f a q l e=some (condB q l e):=by
 unfold spec_CondOk.f condB;rw [in_eq,Option.bind_some];by_cases c:0≤q∧q≤40
 ·simp only [c,and_self,decide_true,if_true,Bool.true_and];cases l <;> cases e <;> rfl
 ·simp only [c,decide_false,Bool.false_eq_true,if_false,Bool.false_and]
def sg (u k:Nat):Int:=if (u % 2 * (k % 2) + u / 2 % 2 * (k / 2 % 2) + u / 4 % 2 * (k / 4 % 2)) % 2=0 then 1 else -1
theorem sg_one (u k:Nat):sg u k=1∨sg u k=-1:=by unfold sg;split <;> simp
/-- The sum of f 0 .. f (n - 1). -/
def sm (f:Nat→Int):Nat→Int
 | 0=>0
 | n + 1=>sm f n + f n
theorem sm_bound (f:Nat→Int) (B:Int) (n:Nat) (h:∀ k,k < n→-B≤f k∧f k≤B):-((n:Int) * B)≤sm f n∧sm f n≤(n:Int) * B:=by
 induction n with
 | zero=>simp [sm]
 | succ n ih =>
  have h1:=ih (fun k hk=>h k (by omega));have h2:=h n (by omega);have e:((n + 1:Nat):Int) * B=(n:Int) * B + B:=by rw [show ((n + 1:Nat):Int)=(n:Int) + 1 from rfl,Int.add_mul,Int.one_mul]
  simp only [sm];rw [e];omega
theorem sgmul_bound {B x:Int} (u k:Nat) (h:-B≤x∧x≤B):-B≤sg u k * x∧sg u k * x≤B:=by
 rcases sg_one u k with e | e <;> rw [e] <;> omega
def halfAt (x:List Int) (i:Nat) (k:Nat):Int:=sg (i % 8) k * rd x ((8 * (i / 8) + k:Nat):Int)
def halfv (x:List Int):List Int:=(List.range 64).map fun i=>sm (halfAt x i) 8
def outAt (h:List Int) (i:Nat) (j:Nat):Int:=sg (i / 8) j * rd h ((8 * j + i % 8:Nat):Int)
def sums2 (h:List Int):List Int:=(List.range 64).map fun i=>sm (outAt h i) 8
def sumsv (x:List Int):List Int:=sums2 (halfv x)
theorem halfv_len (x:List Int):(halfv x).length=64:=by simp [halfv]
theorem sums2_len (x:List Int):(sums2 x).length=64:=by simp [sums2]
theorem sumsv_len (x:List Int):(sumsv x).length=64:=sums2_len _
theorem halfv_get (x:List Int) (i:Nat) (h:i < (halfv x).length):(halfv x)[i]=sm (halfAt x i) 8:=by simp [halfv]
theorem sums2_get (x:List Int) (i:Nat) (h:i < (sums2 x).length):(sums2 x)[i]=sm (outAt x i) 8:=by simp [sums2]
theorem allB_at {lo hi:Int} {l:List Int} (h:allB lo hi l=true) (i:Nat) (hi':i < l.length):lo≤rd l (i:Int)∧rd l (i:Int)≤hi:=by
 rw [rd_nat l i hi'];exact allB_iff.1 h _ (List.getElem_mem _)
theorem half_bound {x:List Int} {M:Int} (hx:x.length=64) (h:allB (-M) M x=true) (i:Nat) (hi:i < 64) (n:Nat) (hn:n≤8):-((n:Int) * M)≤sm (halfAt x i) n∧sm (halfAt x i) n≤(n:Int) * M :=
 sm_bound _ M n fun k hk=>sgmul_bound _ _ (allB_at h _ (by omega))
theorem halfv_all {x:List Int} {M:Int} (hx:x.length=64) (h:allB (-M) M x=true):allB (-(8 * M)) (8 * M) (halfv x)=true:=by
 rw [allB_iff];intro v hv;obtain ⟨i,hi,rfl⟩:=List.mem_iff_getElem.1 hv;rw [halfv_get];have:=half_bound hx h i (by rw [halfv_len] at hi;exact hi) 8 (by omega);omega
theorem out_bound {x:List Int} {M:Int} (hx:x.length=64) (h:allB (-M) M x=true) (i:Nat) (hi:i < 64) (n:Nat) (hn:n≤8):-((n:Int) * M)≤sm (outAt x i) n∧sm (outAt x i) n≤(n:Int) * M :=
 sm_bound _ M n fun k hk=>sgmul_bound _ _ (allB_at h _ (by omega))
theorem sums2_all {x:List Int} {M:Int} (hx:x.length=64) (h:allB (-M) M x=true):allB (-(8 * M)) (8 * M) (sums2 x)=true:=by
 rw [allB_iff];intro v hv;obtain ⟨i,hi,rfl⟩:=List.mem_iff_getElem.1 hv;rw [sums2_get];have:=out_bound hx h i (by rw [sums2_len] at hi;exact hi) 8 (by omega);omega
theorem sumsv_all {x:List Int} {M:Int} (hx:x.length=64) (h:allB (-M) M x=true):allB (-(64 * M)) (64 * M) (sumsv x)=true:=by
 have h2:=sums2_all (halfv_len x) (halfv_all hx h);rw [show 8 * (8 * M)=64 * M by omega] at h2;exact h2
/-- The first p of l, then noughts, 64 in all. -/
def fillB (l:List Int) (p:Nat):List Int:=l.take p ++ (List.replicate 64 (0:Int)).drop p
theorem fill_len (l:List Int) (hl:l.length=64) (p:Nat) (hp:p≤64):(fillB l p).length=64:=by
 unfold fillB;rw [mix_length _ _ _ (by simp [hl]) (by omega)];exact hl
theorem fill_set0 (l:List Int) (hl:l.length=64) (p:Nat) (hp:p < 64):(fillB l p).set p 0=fillB l p:=by
 have e:fillB l p=l.take p ++ (0 :: (List.replicate 64 (0:Int)).drop (p + 1)):=by
  unfold fillB;rw [List.drop_eq_getElem_cons (by simp;omega),List.getElem_replicate]
 rw [e,List.set_append_right _ _ (by simp;omega),show p - (l.take p).length=0 by simp;omega,List.set_cons_zero]
theorem fill_set1 (l:List Int) (hl:l.length=64) (p:Nat) (hp:p < 64):(fillB l p).set p (l[p]'(by omega))=fillB l (p + 1):=mix_set l _ p (by omega) (by simp;omega)
theorem fill_rd (l:List Int) (hl:l.length=64) (p:Nat) (hp:p < 64) (y:Int):rd ((fillB l p).set p y) (p:Int)=y:=by
 rw [rd_nat _ p (by rw [List.length_set,fill_len l hl p (by omega)];exact hp),List.getElem_set_self]
theorem fill_end (l:List Int) (hl:l.length=64):fillB l 64=l:=by
 have:=mix_end l (List.replicate 64 (0:Int)) (by simp [hl]);rw [hl] at this;exact this
theorem idx8 (r v:Nat) (hr:r < 8) (hv:v < 8):wrap64 (wrap64 (8 * (r:Int)) + (v:Int))=((8 * r + v:Nat):Int):=by
 rw [wrap_id (x:=8 * (r:Int)) (by omega) (by omega),wrap_id (by omega) (by omega)];omega
theorem sign_fin:∀ i j:Fin 8,impl_SignOf.f 3 (i.val:Int) (j.val:Int)=some (sg i.val j.val):=by decide +kernel
theorem sign_ev (u k:Nat) (hu:u < 8) (hk:k < 8):Ev (fun n=>impl_SignOf.f n (u:Int) (k:Int)) (sg u k):=Ev.of (fun n=>impl_SignOf.mono _ _ _) (sign_fin ⟨u,hu⟩ ⟨k,hk⟩)
theorem ssign_fin:∀ i j:Fin 8,spec_SignOf.f 12 (i.val:Int) (j.val:Int)=some (sg i.val j.val):=by decide +kernel
theorem ssign_ev (u k:Nat) (hu:u < 8) (hk:k < 8):Ev (fun n=>spec_SignOf.f n (u:Int) (k:Int)) (sg u k):=Ev.of (fun n=>spec_SignOf.mono _ _ _) (ssign_fin ⟨u,hu⟩ ⟨k,hk⟩)
theorem sums_l2 (x:List Int) (hx:x.length=64) (M:Int) (hM:M≤1000000000) (hb:allB (-M) M x=true) (r v:Nat) (hr:r < 8) (hv:v < 8) (R:List Int)
  (hh:Ev (fun k=>impl_sums.l1 k x (fillB (halfv x) (8 * r + v + 1)) (r:Int) (r:Int) ((v + 1:Nat):Int)) R) :
  ∀ m:Nat,m≤8→Ev (fun k=>impl_sums.l2 k x ((fillB (halfv x) (8 * r + v)).set (8 * r + v) (sm (halfAt x (8 * r + v)) m)) (r:Int) (v:Int) (r:Int) (v:Int) (m:Int)) R:=by
 have hl:=halfv_len x;refine down 8 ?_ ?_
 ·refine Ev.step (fun k=>?_) hh;simp only [impl_sums.l2];rw [if_neg (by omega),← halfv_get x (8 * r + v) (by omega),fill_set1 _ hl _ (by omega),wrap_id (by omega) (by omega),cast1]
 ·intro m hm h';have b1:=half_bound hx hb (8 * r + v) (by omega) m (by omega);have b2:-M≤sg v m * rd x ((8 * r + m:Nat):Int)∧sg v m * rd x ((8 * r + m:Nat):Int)≤M:=sgmul_bound _ _ (allB_at hb _ (by omega));have b3:(m:Int) * M≤8 * 1000000000∧0≤(m:Int) * M:=by
   have h0:0≤M:=by omega
   exact ⟨Int.mul_le_mul (by omega) hM h0 (by omega),Int.mul_nonneg (by omega) h0⟩
  have e:sm (halfAt x (8 * r + v)) (m + 1)=sm (halfAt x (8 * r + v)) m + sg v m * rd x ((8 * r + m:Nat):Int):=by
   simp only [sm,halfAt];rw [show (8 * r + v) % 8=v by omega,show (8 * r + v) / 8=r by omega]
  refine Ev.step (f:=fun k=>(impl_SignOf.f k (v:Int) (m:Int)).bind fun t=>impl_sums.l2 k x (((fillB (halfv x) (8 * r + v)).set (8 * r + v) (sm (halfAt x (8 * r + v)) m)).set (8 * r + v) (wrap64 (sm (halfAt x (8 * r + v)) m + wrap64 (t * rd x ((8 * r + m:Nat):Int))))) (r:Int) (v:Int) (r:Int) (v:Int) ((m + 1:Nat):Int)) (fun k=>?_) (Ev.bind (sign_ev v m hv hm) ?_)
  ·simp only [impl_sums.l2];rw [if_pos (by omega),idx8 r v hr hv,idx8 r m hr hm,if_pos (by omega),if_pos (by rw [List.length_set,fill_len _ hl _ (by omega)];omega),fill_rd _ hl _ (by omega),wrap_id (x:=(m:Int) + 1) (by omega) (by omega),cast1]
   congr 1
   funext t
   rw [if_pos (by omega),if_pos (by omega),Int.toNat_natCast]
  ·rw [List.set_set,wrap_id (x:=sg v m * _) (by omega) (by omega),wrap_id (by omega) (by omega),← e];exact h'
theorem sums_l1 (x:List Int) (hx:x.length=64) (M:Int) (hM:M≤1000000000) (hb:allB (-M) M x=true) (r:Nat) (hr:r < 8) (R:List Int)
  (hh:Ev (fun k=>impl_sums.l0 k x (fillB (halfv x) (8 * (r + 1))) ((r + 1:Nat):Int)) R) :
  ∀ v:Nat,v≤8→Ev (fun k=>impl_sums.l1 k x (fillB (halfv x) (8 * r + v)) (r:Int) (r:Int) (v:Int)) R:=by
 refine down 8 ?_ ?_
 ·refine Ev.step (fun k=>?_) hh;simp only [impl_sums.l1];rw [if_neg (by omega),wrap_id (by omega) (by omega),cast1];rfl
 ·intro v hv h';refine Ev.step (fun k=>?_) (sums_l2 x hx M hM hb r v hr hv R h' 0 (by omega));simp only [impl_sums.l1];rw [if_pos (by omega),sm,fill_set0 _ (halfv_len x) _ (by omega)];rfl
theorem sums_l0 (x:List Int) (hx:x.length=64) (M:Int) (hM:M≤1000000000) (hb:allB (-M) M x=true) (R:List Int)
  (hh:Ev (fun k=>impl_sums.l3 k (halfv x) (List.replicate 64 0) 0) R) :
  ∀ r:Nat,r≤8→Ev (fun k=>impl_sums.l0 k x (fillB (halfv x) (8 * r)) (r:Int)) R:=by
 refine down 8 ?_ ?_
 ·refine Ev.step (fun k=>?_) hh;simp only [impl_sums.l0];rw [if_neg (by omega),if_pos (by decide),fill_end _ (halfv_len x)]
 ·intro r hr h';refine Ev.step (fun k=>?_) (sums_l1 x hx M hM hb r hr R h' 0 (by omega));simp only [impl_sums.l0];rw [if_pos (by omega)];rfl
theorem sums_l5 (x:List Int) (hx:x.length=64) (M:Int) (hM:M≤1000000000) (hb:allB (-M) M x=true) (r v:Nat) (hr:r < 8) (hv:v < 8) (R:List Int)
  (hh:Ev (fun k=>impl_sums.l4 k x (fillB (sums2 x) (8 * r + v + 1)) (r:Int) (r:Int) ((v + 1:Nat):Int)) R) :
  ∀ m:Nat,m≤8→Ev (fun k=>impl_sums.l5 k x ((fillB (sums2 x) (8 * r + v)).set (8 * r + v) (sm (outAt x (8 * r + v)) m)) (r:Int) (v:Int) (r:Int) (v:Int) (m:Int)) R:=by
 have hl:=sums2_len x;refine down 8 ?_ ?_
 ·refine Ev.step (fun k=>?_) hh;simp only [impl_sums.l5];rw [if_neg (by omega),← sums2_get x (8 * r + v) (by omega),fill_set1 _ hl _ (by omega),wrap_id (by omega) (by omega),cast1]
 ·intro m hm h';have b1:=out_bound hx hb (8 * r + v) (by omega) m (by omega);have b2:-M≤sg r m * rd x ((8 * m + v:Nat):Int)∧sg r m * rd x ((8 * m + v:Nat):Int)≤M:=sgmul_bound _ _ (allB_at hb _ (by omega));have b3:(m:Int) * M≤8 * 1000000000∧0≤(m:Int) * M:=by
   have h0:0≤M:=by omega
   exact ⟨Int.mul_le_mul (by omega) hM h0 (by omega),Int.mul_nonneg (by omega) h0⟩
  have e:sm (outAt x (8 * r + v)) (m + 1)=sm (outAt x (8 * r + v)) m + sg r m * rd x ((8 * m + v:Nat):Int):=by
   simp only [sm,outAt];rw [show (8 * r + v) % 8=v by omega,show (8 * r + v) / 8=r by omega]
  refine Ev.step (f:=fun k=>(impl_SignOf.f k (r:Int) (m:Int)).bind fun t=>impl_sums.l5 k x (((fillB (sums2 x) (8 * r + v)).set (8 * r + v) (sm (outAt x (8 * r + v)) m)).set (8 * r + v) (wrap64 (sm (outAt x (8 * r + v)) m + wrap64 (t * rd x ((8 * m + v:Nat):Int))))) (r:Int) (v:Int) (r:Int) (v:Int) ((m + 1:Nat):Int)) (fun k=>?_) (Ev.bind (sign_ev r m hr hm) ?_)
  ·simp only [impl_sums.l5];rw [if_pos (by omega),idx8 r v hr hv,idx8 m v hm hv,if_pos (by omega),if_pos (by rw [List.length_set,fill_len _ hl _ (by omega)];omega),fill_rd _ hl _ (by omega),wrap_id (x:=(m:Int) + 1) (by omega) (by omega),cast1]
   congr 1
   funext t
   rw [if_pos (by omega),if_pos (by omega),Int.toNat_natCast]
  ·rw [List.set_set,wrap_id (x:=sg r m * _) (by omega) (by omega),wrap_id (by omega) (by omega),← e];exact h'
theorem sums_l4 (x:List Int) (hx:x.length=64) (M:Int) (hM:M≤1000000000) (hb:allB (-M) M x=true) (r:Nat) (hr:r < 8) (R:List Int)
  (hh:Ev (fun k=>impl_sums.l3 k x (fillB (sums2 x) (8 * (r + 1))) ((r + 1:Nat):Int)) R) :
  ∀ v:Nat,v≤8→Ev (fun k=>impl_sums.l4 k x (fillB (sums2 x) (8 * r + v)) (r:Int) (r:Int) (v:Int)) R:=by
 refine down 8 ?_ ?_
 ·refine Ev.step (fun k=>?_) hh;simp only [impl_sums.l4];rw [if_neg (by omega),wrap_id (by omega) (by omega),cast1];rfl
 ·intro v hv h';refine Ev.step (fun k=>?_) (sums_l5 x hx M hM hb r v hr hv R h' 0 (by omega));simp only [impl_sums.l4];rw [if_pos (by omega),sm,fill_set0 _ (sums2_len x) _ (by omega)];rfl
theorem sums_l3 (x:List Int) (hx:x.length=64) (M:Int) (hM:M≤1000000000) (hb:allB (-M) M x=true) :
  ∀ r:Nat,r≤8→Ev (fun k=>impl_sums.l3 k x (fillB (sums2 x) (8 * r)) (r:Int)) (sums2 x):=by
 refine down 8 ?_ ?_
 ·refine Ev.step (f:=fun _=>some (sums2 x)) (fun k=>?_) (Ev.now _);simp only [impl_sums.l3];rw [if_neg (by omega),fill_end _ (sums2_len x)]
 ·intro r hr h';refine Ev.step (fun k=>?_) (sums_l4 x hx M hM hb r hr _ h' 0 (by omega));simp only [impl_sums.l3];rw [if_pos (by omega)];rfl
theorem fill_zero (l:List Int):fillB l 0=List.replicate 64 0:=by simp [fillB]
theorem sums_ev (x:List Int) (hx:x.length=64) (M:Int) (hM:M≤100000000) (hb:allB (-M) M x=true):Ev (fun k=>impl_sums.f k x) (sumsv x):=by
 unfold impl_sums.f;have h2:=sums_l3 (halfv x) (halfv_len x) (8 * M) (by omega) (halfv_all hx hb) 0 (by omega);rw [Nat.mul_zero,fill_zero] at h2;have h1:=sums_l0 x hx M (by omega) hb _ h2 0 (by omega);rw [Nat.mul_zero,fill_zero] at h1;refine Ev.congr (fun k=>?_) h1;rw [if_pos (by decide)];rfl
theorem srow_ev (x:List Int) (hx:x.length=64) (M:Int) (hM:M≤1000000000) (hb:allB (-M) M x=true) (r v:Nat) (hr:r < 8) (hv:v < 8):Ev (fun k=>spec_l10Row.f k x (r:Int) (v:Int)) (sm (halfAt x (8 * r + v)) 8):=by
 have H:∀ m:Nat,m≤8→Ev (fun k=>spec_l10Row.l0 k x (r:Int) (v:Int) (sm (halfAt x (8 * r + v)) m) (m:Int)) (sm (halfAt x (8 * r + v)) 8):=by
  refine down 8 ?_ ?_
  ·refine Ev.step (f:=fun _=>some (sm (halfAt x (8 * r + v)) 8)) (fun k=>?_) (Ev.now _);simp only [spec_l10Row.l0];rw [if_neg (by omega)]
  ·intro m hm h';have b1:=half_bound hx hb (8 * r + v) (by omega) m (by omega);have b2:-M≤sg v m * rd x ((8 * r + m:Nat):Int)∧sg v m * rd x ((8 * r + m:Nat):Int)≤M:=sgmul_bound _ _ (allB_at hb _ (by omega));have b3:(m:Int) * M≤8 * 1000000000∧0≤(m:Int) * M:=by
    have h0:0≤M:=by omega
    exact ⟨Int.mul_le_mul (by omega) hM h0 (by omega),Int.mul_nonneg (by omega) h0⟩
   have e:sm (halfAt x (8 * r + v)) (m + 1)=sm (halfAt x (8 * r + v)) m + sg v m * rd x ((8 * r + m:Nat):Int):=by
    simp only [sm,halfAt];rw [show (8 * r + v) % 8=v by omega,show (8 * r + v) / 8=r by omega]
   refine Ev.step (f:=fun k=>(spec_SignOf.f k (v:Int) (m:Int)).bind fun t=>spec_l10Row.l0 k x (r:Int) (v:Int) (wrap64 (sm (halfAt x (8 * r + v)) m + wrap64 (rd x ((8 * r + m:Nat):Int) * t))) ((m + 1:Nat):Int)) (fun k=>?_) (Ev.bind (ssign_ev v m hv hm) ?_)
   ·simp only [spec_l10Row.l0];rw [if_pos (by omega),idx8 r m hr hm,if_pos (by omega),if_pos (by omega),wrap_id (x:=(m:Int) + 1) (by omega) (by omega),cast1]
   ·rw [Int.mul_comm (rd x _),wrap_id (x:=sg v m * _) (by omega) (by omega),wrap_id (by omega) (by omega),← e];exact h'
 exact H 0 (by omega)
theorem ssums_l1 (x:List Int) (hx:x.length=64) (M:Int) (hM:M≤1000000000) (hb:allB (-M) M x=true) (r:Nat) (hr:r < 8) (R:List Int)
  (hh:Ev (fun k=>spec_l10Sums.l0 k x ((halfv x).take (8 * (r + 1))) ((r + 1:Nat):Int)) R) :
  ∀ v:Nat,v≤8→Ev (fun k=>spec_l10Sums.l1 k x ((halfv x).take (8 * r + v)) (r:Int) (v:Int)) R:=by
 have hl:=halfv_len x;refine down 8 ?_ ?_
 ·refine Ev.step (fun k=>?_) hh;simp only [spec_l10Sums.l1];rw [if_neg (by omega),wrap_id (by omega) (by omega),cast1];rfl
 ·intro v hv h';have hr':=srow_ev x hx M hM hb r v hr hv;rw [← halfv_get x (8 * r + v) (by omega)] at hr';refine Ev.step (f:=fun k=>(spec_l10Row.f k x (r:Int) (v:Int)).bind fun t=>(if ((halfv x).take (8 * r + v)).length < 17592186044416 then (spec_l10Sums.l1 k x ((halfv x).take (8 * r + v) ++ [t]) (r:Int) ((v + 1:Nat):Int)) else (none))) (fun k=>?_) (Ev.bind hr' ?_)
  ·simp only [spec_l10Sums.l1];rw [if_pos (by omega),wrap_id (x:=(v:Int) + 1) (by omega) (by omega),cast1]
  ·refine Ev.congr (fun k=>?_) h';rw [if_pos (by simp;omega),← List.take_succ_eq_append_getElem (by omega)];rfl
theorem ssums_l0 (x:List Int) (hx:x.length=64) (M:Int) (hM:M≤1000000000) (hb:allB (-M) M x=true) (R:List Int)
  (hh:Ev (fun k=>spec_l10Sums.l2 k (halfv x) [] 0) R) :
  ∀ r:Nat,r≤8→Ev (fun k=>spec_l10Sums.l0 k x ((halfv x).take (8 * r)) (r:Int)) R:=by
 have hl:=halfv_len x;refine down 8 ?_ ?_
 ·refine Ev.step (fun k=>?_) hh;simp only [spec_l10Sums.l0];rw [if_neg (by omega),List.take_of_length_le (by omega)]
 ·intro r hr h';refine Ev.step (fun k=>?_) (ssums_l1 x hx M hM hb r hr R h' 0 (by omega));simp only [spec_l10Sums.l0];rw [if_pos (by omega)];rfl
theorem ssums_l4 (x:List Int) (hx:x.length=64) (M:Int) (hM:M≤1000000000) (hb:allB (-M) M x=true) (r v:Nat) (hr:r < 8) (hv:v < 8) (R:List Int)
  (hh:Ev (fun k=>spec_l10Sums.l3 k x ((sums2 x).take (8 * r + v + 1)) (r:Int) ((v + 1:Nat):Int)) R) :
  ∀ m:Nat,m≤8→Ev (fun k=>spec_l10Sums.l4 k x ((sums2 x).take (8 * r + v)) (r:Int) (v:Int) (sm (outAt x (8 * r + v)) m) (m:Int)) R:=by
 have hl:=sums2_len x;refine down 8 ?_ ?_
 ·refine Ev.step (fun k=>?_) hh;simp only [spec_l10Sums.l4];rw [if_neg (by omega),if_pos (by simp;omega),← sums2_get x (8 * r + v) (by omega),← List.take_succ_eq_append_getElem (by omega),wrap_id (by omega) (by omega),cast1]
 ·intro m hm h';have b1:=out_bound hx hb (8 * r + v) (by omega) m (by omega);have b2:-M≤sg r m * rd x ((8 * m + v:Nat):Int)∧sg r m * rd x ((8 * m + v:Nat):Int)≤M:=sgmul_bound _ _ (allB_at hb _ (by omega));have b3:(m:Int) * M≤8 * 1000000000∧0≤(m:Int) * M:=by
   have h0:0≤M:=by omega
   exact ⟨Int.mul_le_mul (by omega) hM h0 (by omega),Int.mul_nonneg (by omega) h0⟩
  have e:sm (outAt x (8 * r + v)) (m + 1)=sm (outAt x (8 * r + v)) m + sg r m * rd x ((8 * m + v:Nat):Int):=by
   simp only [sm,outAt];rw [show (8 * r + v) % 8=v by omega,show (8 * r + v) / 8=r by omega]
  refine Ev.step (f:=fun k=>(spec_SignOf.f k (r:Int) (m:Int)).bind fun t=>spec_l10Sums.l4 k x ((sums2 x).take (8 * r + v)) (r:Int) (v:Int) (wrap64 (sm (outAt x (8 * r + v)) m + wrap64 (t * rd x ((8 * m + v:Nat):Int)))) ((m + 1:Nat):Int)) (fun k=>?_) (Ev.bind (ssign_ev r m hr hm) ?_)
  ·simp only [spec_l10Sums.l4];rw [if_pos (by omega),idx8 m v hm hv,wrap_id (x:=(m:Int) + 1) (by omega) (by omega),cast1]
   congr 1
   funext t
   rw [if_pos (by omega),if_pos (by omega)]
  ·rw [wrap_id (x:=sg r m * _) (by omega) (by omega),wrap_id (by omega) (by omega),← e];exact h'
theorem ssums_l3 (x:List Int) (hx:x.length=64) (M:Int) (hM:M≤1000000000) (hb:allB (-M) M x=true) (r:Nat) (hr:r < 8) (R:List Int)
  (hh:Ev (fun k=>spec_l10Sums.l2 k x ((sums2 x).take (8 * (r + 1))) ((r + 1:Nat):Int)) R) :
  ∀ v:Nat,v≤8→Ev (fun k=>spec_l10Sums.l3 k x ((sums2 x).take (8 * r + v)) (r:Int) (v:Int)) R:=by
 refine down 8 ?_ ?_
 ·refine Ev.step (fun k=>?_) hh;simp only [spec_l10Sums.l3];rw [if_neg (by omega),wrap_id (by omega) (by omega),cast1];rfl
 ·intro v hv h';refine Ev.step (fun k=>?_) (ssums_l4 x hx M hM hb r v hr hv R h' 0 (by omega));simp only [spec_l10Sums.l3];rw [if_pos (by omega)];rfl
theorem ssums_l2 (x:List Int) (hx:x.length=64) (M:Int) (hM:M≤1000000000) (hb:allB (-M) M x=true) :
  ∀ r:Nat,r≤8→Ev (fun k=>spec_l10Sums.l2 k x ((sums2 x).take (8 * r)) (r:Int)) (sums2 x):=by
 refine down 8 ?_ ?_
 ·refine Ev.step (f:=fun _=>some (sums2 x)) (fun k=>?_) (Ev.now _);simp only [spec_l10Sums.l2];rw [if_neg (by omega),List.take_of_length_le (by rw [sums2_len];omega)]
 ·intro r hr h';refine Ev.step (fun k=>?_) (ssums_l3 x hx M hM hb r hr _ h' 0 (by omega));simp only [spec_l10Sums.l2];rw [if_pos (by omega)];rfl
theorem ssums_ev (x:List Int) (hx:x.length=64) (M:Int) (hM:M≤100000000) (hb:allB (-M) M x=true):Ev (fun k=>spec_l10Sums.f k x) (sumsv x):=by
 have h2:=ssums_l2 (halfv x) (halfv_len x) (8 * M) (by omega) (halfv_all hx hb) 0 (by omega);have h1:=ssums_l0 x hx M (by omega) hb _ h2 0 (by omega);exact h1
theorem len_dece (l:List Int) (n:Nat) (m:Int) (h:m=(n:Int)):decide ((l.length:Int)=m)=decide (l.length=n):=by rw [decide_eq_decide];omega
theorem and_falsee {b:Bool} {p:Prop} [Decidable p] (h:¬ (p∧b=true)):(decide p && b)=false:=by
 rw [Bool.eq_false_iff];intro h';rw [Bool.and_eq_true,decide_eq_true_eq] at h';exact h h'
def EbOk (x:List Int):Prop:=x.length=64∧allB (-10000000) 10000000 x=true
instance (x:List Int):Decidable (EbOk x):=by unfold EbOk;infer_instance
def ebv (x:List Int):List Int:=if EbOk x then settledL (sumsv x) else []
theorem ebv_len (x:List Int):(ebv x).length≤64:=by
 unfold ebv;by_cases c:EbOk x
 ·rw [if_pos c,settledL_len,sumsv_len];omega
 ·rw [if_neg c];simp
theorem sumsv_small {x:List Int} (h:EbOk x):∀ v ∈ sumsv x,-1000000000000≤v∧v≤1000000000000:=by
 have:=allB_iff.1 (sumsv_all h.1 h.2);intro v hv;have h1:=this v hv;omega
theorem eightback_ev (x:List Int) (hx:x.length≤17592186043904):Ev (fun k=>impl_EightBack.f k x) (ebv x):=by
 unfold impl_EightBack.f ebv;refine Ev.bind (areIn_ev x 64 (-10000000) 10000000 hx) ?_;rw [len_dece x 64 64 rfl];by_cases c:EbOk x
 ·rw [if_pos c,decide_eq_true c.1,c.2];simp only [Bool.and_self,if_true];exact Ev.bind (sums_ev x c.1 10000000 (by omega) c.2) (Ev.bind (settled_ev _ (by rw [sumsv_len];omega) (sumsv_small c)) (Ev.now _))
 ·rw [if_neg c,and_falsee c];simp only [Bool.false_eq_true,if_false];exact Ev.now _
theorem seb_loop (l:List Int) (hl:l.length=64) (hb:∀ x ∈ l,-1000000000000≤x∧x≤1000000000000):Ev (fun k=>spec_EightBack.l0 k l 0) (settledL l):=by
 have H:∀ i,i≤l.length→Ev (fun k=>spec_EightBack.l0 k (setTo l i) (i:Int)) (settledL l):=by
  refine down l.length ?_ ?_
  ·refine Ev.step (f:=fun _=>some (settledL l)) (fun k=>?_) (Ev.now _);simp only [spec_EightBack.l0];rw [if_neg (by omega),setTo_end]
  ·intro i hi h;have hx:=hb l[i] (List.getElem_mem _);refine Ev.step (fun k=>?_) h;simp only [spec_EightBack.l0];rw [if_pos (by omega),if_pos (by omega),if_pos (by rw [setTo_len l i (by omega)];omega),setTo_rd l i hi];unfold spec_l09Down.f;rw [down_eq hx.1 hx.2,Option.bind_some,Int.toNat_natCast,setTo_set l i hi,wrap_id (by omega) (by omega),cast1]
 exact H 0 (by omega)
theorem seightback_ev (x:List Int) (hx:x.length≤17592186043904):Ev (fun k=>spec_EightBack.f k x) (ebv x):=by
 unfold spec_EightBack.f ebv;refine Ev.bind (all_ev x 64 10000000 hx (by omega) (by omega)) ?_;rw [len_dece x 64 64 rfl];by_cases c:EbOk x
 ·rw [if_pos c,decide_eq_true c.1,c.2];simp only [Bool.and_self,if_true];exact Ev.bind (ssums_ev x c.1 10000000 (by omega) c.2) (seb_loop _ (sumsv_len x) (sumsv_small c))
 ·rw [if_neg c,and_falsee c];simp only [Bool.false_eq_true,if_false];exact Ev.now _
/-- The kind of a place of sixteen. -/
def kindN (a:Int):Int:=if 0≤a∧a≤15 then (if a / 4 % 2=0∧a % 4 % 2=0 then 0 else if a / 4 % 2=1∧a % 4 % 2=1 then 1 else 2) else -1
theorem kindN_in {a:Int} (h:0≤a∧a≤15):0≤kindN a∧kindN a < 3:=by
 unfold kindN;rw [if_pos h];by_cases c1:a / 4 % 2=0∧a % 4 % 2=0
 ·rw [if_pos c1];omega
 ·rw [if_neg c1];by_cases c2:a / 4 % 2=1∧a % 4 % 2=1
  ·rw [if_pos c2];omega
  ·rw [if_neg c2];omega
theorem kind_parts {a:Int} (h:0≤a∧a≤15):Int.tmod (wrap64 (Int.tdiv a 4)) 2=a / 4 % 2∧Int.tmod (Int.tmod a 4) 2=a % 4 % 2:=by
 rw [Int.tdiv_eq_ediv_of_nonneg h.1,wrap_id (by omega) (by omega),Int.tmod_eq_emod_of_nonneg (a:=a / 4) (by omega),Int.tmod_eq_emod_of_nonneg (a:=a) h.1,Int.tmod_eq_emod_of_nonneg (a:=a % 4) (by omega)];exact ⟨rfl,rfl⟩
theorem kind_ev (a:Int):Ev (fun k=>impl_KindOf.f k a) (kindN a):=by
 unfold impl_KindOf.f kindN;simp only [within_eq,Option.bind_some];by_cases h:0≤a∧a≤15
 ·obtain ⟨e1,e2⟩:=kind_parts h;simp only [decide_eq_true h,if_true,h,and_self,e1,e2];have hr:a / 4 % 2=0∨a / 4 % 2=1:=by omega
  have hc:a % 4 % 2=0∨a % 4 % 2=1:=by omega
  generalize a / 4 % 2=x at hr;generalize a % 4 % 2=y at hc;rcases hr with rfl | rfl <;> rcases hc with rfl | rfl <;> exact Ev.step (fun k=>by simp only [impl_KindOf.j0];rfl) (Ev.now _)
 ·simp only [decide_eq_false h,h,if_false,Bool.false_eq_true];exact Ev.now _
theorem skind_ev (a:Int):Ev (fun k=>spec_KindOf.f k a) (kindN a):=by
 unfold spec_KindOf.f kindN;simp only [in_eq,Option.bind_some];by_cases h:0≤a∧a≤15
 ·obtain ⟨e1,e2⟩:=kind_parts h;simp only [decide_eq_true h,if_true,h,and_self,e1,e2];have hr:a / 4 % 2=0∨a / 4 % 2=1:=by omega
  have hc:a % 4 % 2=0∨a % 4 % 2=1:=by omega
  generalize a / 4 % 2=x at hr;generalize a % 4 % 2=y at hc;rcases hr with rfl | rfl <;> rcases hc with rfl | rfl <;> exact Ev.step (fun k=>by simp only [spec_KindOf.j0];rfl) (Ev.now _)
 ·simp only [decide_eq_false h,h,if_false,Bool.false_eq_true];exact Ev.now _
theorem pow_le_nat {a b:Nat} (h:a≤b):(2:Int) ^ a≤2 ^ b:=by
 have:=Nat.pow_le_pow_right (show 0 < 2 by omega) h
 exact_mod_cast this
theorem pow_ge1 (a:Nat):(1:Int)≤2 ^ a:=Int.pow_pos (by omega)
theorem shl_val {x e:Int} (hx:0≤x∧x≤30000) (he:0≤e∧e≤25):shl .i64 x e=x * 2 ^ e.toNat:=by
 unfold shl;have hm:min e.toNat IntKind.i64.bits=e.toNat:=Nat.min_eq_left (by show e.toNat≤64;omega);rw [hm,i64_w];have hp:=pow_le_nat (a:=e.toNat) (b:=25) (by omega);have h1:=pow_ge1 e.toNat;have hb:x * 2 ^ e.toNat≤30000 * 2 ^ 25:=Int.mul_le_mul hx.2 hp (by omega) (by omega);have h0:0≤x * 2 ^ e.toNat:=Int.mul_nonneg hx.1 (by omega);rw [wrap_id (by omega) (by omega)]
def scaleN (q p:Int):Int:=if (0≤q∧q≤40)∧0≤p∧p≤15 then scaleT (q % 6) (kindN p) * 2 ^ (q / 6).toNat else 0
theorem scaleT_in (q k:Int):10≤scaleT q k∧scaleT q k≤29:=by
 unfold scaleT
 repeat' split
 all_goals omega
theorem scale_ev (q p:Int):Ev (fun k=>impl_ScaleOf.f k q p) (scaleN q p):=by
 unfold impl_ScaleOf.f scaleN;simp only [within_eq,Option.bind_some];by_cases h1:0≤q∧q≤40
 ·by_cases h2:0≤p∧p≤15
  ·simp only [if_true,h1,h2,and_self,decide_true];refine Ev.bind (kind_ev p) ?_;have hs:=scaleT_in (q % 6) (kindN p);have e:wrap64 (Int.tdiv q 6)=q / 6:=by rw [Int.tdiv_eq_ediv_of_nonneg h1.1,wrap_id (by omega) (by omega)]
   rw [if_pos (kindN_in h2),Int.tmod_eq_emod_of_nonneg h1.1,e,shl_val (by omega) (by omega)];exact Ev.now _
  ·simp only [h1,and_self,decide_true,decide_eq_false h2,if_true,h2,and_false,if_false,Bool.false_eq_true];exact Ev.now _
 ·simp only [decide_eq_false h1,if_false,h1,false_and,Bool.false_eq_true];exact Ev.now _
theorem spick_val (n a b c:Int):spec_l08Pick.f n a b c=some (if n=0 then a else if n=1 then b else c):=by
 unfold spec_l08Pick.f;by_cases c0:n=0
 ·rw [if_pos c0,if_pos c0]
 ·rw [if_neg c0,if_neg c0];by_cases c1:n=1
  ·rw [if_pos c1,if_pos c1]
  ·rw [if_neg c1,if_neg c1]
theorem sscale_loop (q:Int) (hq:0≤q∧q≤40) (d:Nat):∀ i b:Int,0≤i→i + (d:Int)=q / 6→0≤b→b * 2 ^ d≤1000000→Ev (fun k=>spec_ScaleOf.l0 k q b i) (b * 2 ^ d):=by
 have e:wrap64 (Int.tdiv q 6)=q / 6:=by rw [Int.tdiv_eq_ediv_of_nonneg hq.1,wrap_id (by omega) (by omega)]
 induction d with
 | zero =>
  intro i b hz hi h0 h1;rw [Int.pow_zero,Int.mul_one];refine Ev.step (f:=fun _=>some b) (fun k=>?_) (Ev.now _);simp only [spec_ScaleOf.l0];rw [e,if_neg (by omega)]
 | succ d ih =>
  intro i b hz hi h0 h1;have e2:b * 2 ^ (d + 1)=(2 * b) * 2 ^ d:=by rw [Int.pow_succ,Int.mul_comm (2 ^ d) 2,← Int.mul_assoc,Int.mul_comm b 2]
  rw [e2] at h1 ⊢;have hp:=pow_ge1 d;have hb:(2 * b) * 1≤(2 * b) * 2 ^ d:=Int.mul_le_mul_of_nonneg_left hp (by omega);refine Ev.step (fun k=>?_) (ih (i + 1) (2 * b) (by omega) (by omega) (by omega) h1);simp only [spec_ScaleOf.l0];rw [e,if_pos (by omega),wrap_id (x:=2 * b) (by omega) (by omega),wrap_id (x:=i + 1) (by omega) (by omega)]
theorem sscale_ev (q p:Int):Ev (fun k=>spec_ScaleOf.f k q p) (scaleN q p):=by
 unfold spec_ScaleOf.f scaleN;refine Ev.bind (skind_ev p) ?_;simp only [in_eq,Option.bind_some];have hbad:∀ x y:Int,Ev (fun k=>spec_ScaleOf.j0 k x y true) 0:=fun x y=>Ev.step (f:=fun _=>some 0) (fun k=>by simp only [spec_ScaleOf.j0];rfl) (Ev.now _)
 by_cases h1:0≤q∧q≤40
 ·by_cases h2:0≤p∧p≤15
  ·have hk:=kindN_in h2;have hd:decide (kindN p < 0)=false:=decide_eq_false (by omega);simp only [if_true,h1,h2,and_self,decide_true,hd];have hs:=scaleT_in (q % 6) (kindN p);have hp:=pow_le_nat (a:=(q / 6).toNat) (b:=6) (by omega);have hp1:=pow_ge1 (q / 6).toNat;have hm:scaleT (q % 6) (kindN p) * 2 ^ (q / 6).toNat≤29 * 2 ^ 6:=Int.mul_le_mul hs.2 hp (by omega) (by omega);have hl:=sscale_loop q h1 (q / 6).toNat 0 (scaleT (q % 6) (kindN p)) (by omega) (by omega) (by omega) (by omega);have hj:Ev (fun k=>spec_ScaleOf.j1 k q (scaleT (q % 6) (kindN p))) (scaleT (q % 6) (kindN p) * 2 ^ (q / 6).toNat):=Ev.step (fun k=>by simp only [spec_ScaleOf.j1]) hl;refine Ev.step (fun k=>?_) hj;simp only [spec_ScaleOf.j0,Bool.false_eq_true,if_false,spick_val,Option.bind_some,Int.tmod_eq_emod_of_nonneg h1.1];have hq6:q % 6=0∨q % 6=1∨q % 6=2∨q % 6=3∨q % 6=4∨q % 6=5:=by omega
   unfold scaleT;generalize q % 6=m at hq6;rcases hq6 with rfl | rfl | rfl | rfl | rfl | rfl <;> rfl
  ·have hk:kindN p < 0:=by unfold kindN;rw [if_neg h2];omega
   simp only [h1,and_self,decide_true,if_true,h2,and_false,if_false,decide_eq_true hk];exact hbad _ _
 ·simp only [decide_eq_false h1,if_false,h1,false_and,Bool.false_eq_true];exact hbad _ _
def stepT (m:Int):Int:=if m=0 then 10 else if m=1 then 11 else if m=2 then 13 else if m=3 then 14 else if m=4 then 16 else 18
def stepN (q:Int):Int:=if 0≤q∧q≤40 then stepT (q % 6) * 2 ^ (q / 6).toNat else 0
theorem stepT_in (m:Int):10≤stepT m∧stepT m≤18:=by
 unfold stepT
 repeat' split
 all_goals omega
theorem stepN_in {q:Int} (h:0≤q∧q≤40):10≤stepN q∧stepN q≤1152:=by
 unfold stepN;rw [if_pos h];have hs:=stepT_in (q % 6);have hp:=pow_le_nat (a:=(q / 6).toNat) (b:=6) (by omega);have hp1:=pow_ge1 (q / 6).toNat;have a1:stepT (q % 6) * 2 ^ (q / 6).toNat≤18 * 2 ^ 6:=Int.mul_le_mul hs.2 hp (by omega) (by omega);have a2:stepT (q % 6) * 1≤stepT (q % 6) * 2 ^ (q / 6).toNat:=Int.mul_le_mul_of_nonneg_left hp1 (by omega);omega
theorem step_val (q:Int):impl_StepOf.f q=some (stepN q):=by
 unfold impl_StepOf.f stepN;simp only [within_eq,Option.bind_some];by_cases h:0≤q∧q≤40
 ·have e:wrap64 (Int.tdiv q 6)=q / 6:=by rw [Int.tdiv_eq_ediv_of_nonneg h.1,wrap_id (by omega) (by omega)]
  have g1:(0:Int)≤q % 6:=by omega
  have g2:q % 6 < (([10,11,13,14,16,18]:List Int).length:Int):=by simp only [List.length_cons,List.length_nil];omega
  have g3:(0:Int)≤q / 6:=by omega
  have hr:rd [10,11,13,14,16,18] (q % 6)=stepT (q % 6):=by
   have hq:q % 6=0∨q % 6=1∨q % 6=2∨q % 6=3∨q % 6=4∨q % 6=5:=by omega
   generalize q % 6=m at hq;rcases hq with rfl | rfl | rfl | rfl | rfl | rfl <;> rfl
  have hs:=stepT_in (q % 6);simp only [h,and_self,decide_true,if_true,e,Int.tmod_eq_emod_of_nonneg h.1,g1,g2,g3,hr];rw [shl_val (by omega) (by omega)]
 ·simp only [h,decide_false,if_false,Bool.false_eq_true]
theorem condB_in {q:Int} {c d:Bool} (h:condB q c d=true):0≤q∧q≤40:=by
 unfold condB at h;exact of_decide_eq_true (Bool.and_eq_true _ _ ▸ h).1
theorem sstep_fin:∀ q:Fin 41,spec_StepOf.f 80 (q.val:Int)=some (stepN (q.val:Int)):=by decide +kernel
theorem sstep_ev {q:Int} (h:0≤q∧q≤40):Ev (fun k=>spec_StepOf.f k q) (stepN q):=by
 have e:((⟨q.toNat,by omega⟩:Fin 41).val:Int)=q:=Int.toNat_of_nonneg h.1;have f:=sstep_fin ⟨q.toNat,by omega⟩;rw [e] at f;exact Ev.of (fun n=>spec_StepOf.mono _ _) f
def largeB (x q:Int):Int:=if -5000≤x∧x≤5000 then wrap64 (x * stepN q) else 0
def smallB (x q p:Int):Int:=if -5000≤x∧x≤5000 then wrap64 (x * scaleN q p) else 0
theorem mul_in {x s a b:Int} (hx:-a≤x∧x≤a) (hs:0≤s∧s≤b) (ha:0≤a):-(a * b)≤x * s∧x * s≤a * b:=by
 have h1:x * s≤a * s:=Int.mul_le_mul_of_nonneg_right hx.2 hs.1;have h2:a * s≤a * b:=Int.mul_le_mul_of_nonneg_left hs.2 ha;have h3:-a * s≤x * s:=Int.mul_le_mul_of_nonneg_right hx.1 hs.1;rw [Int.neg_mul] at h3;omega
theorem scaleN_in {q:Int} (hq:0≤q∧q≤40) (p:Int):0≤scaleN q p∧scaleN q p≤1856:=by
 unfold scaleN
 split
 ·have h:=scaleT_in (q % 6) (kindN p);have e:(q / 6).toNat≤6:=by omega
  have h2:(1:Int)≤2 ^ (q / 6).toNat∧(2:Int) ^ (q / 6).toNat≤64:=by
   generalize (q / 6).toNat=n at e;have:n=0∨n=1∨n=2∨n=3∨n=4∨n=5∨n=6:=by omega
   rcases this with rfl | rfl | rfl | rfl | rfl | rfl | rfl <;> decide
  have h3:=mul_in (x:=scaleT (q % 6) (kindN p)) (s:=2 ^ (q / 6).toNat) (a:=29) (b:=64) (by omega) (by omega) (by omega);have h4:0≤scaleT (q % 6) (kindN p) * 2 ^ (q / 6).toNat:=Int.mul_nonneg (by omega) (by omega);omega
 ·omega
theorem smallB_in {q:Int} (hq:0≤q∧q≤40) (x p:Int):-10000000≤smallB x q p∧smallB x q p≤10000000:=by
 unfold smallB
 split
 ·rename_i hx
  have h:=mul_in (x:=x) (s:=scaleN q p) (a:=5000) (b:=1856) (by omega) (scaleN_in hq p) (by omega);rw [wrap_id (by omega) (by omega)];omega
 ·omega
theorem smallB_ok (l:List Int) (hl:l.length=16) {q:Int} (hq:0≤q∧q≤40):FbOk (l.mapIdx (fun i x=>smallB x q (i:Int))):=by
 refine ⟨by rw [List.length_mapIdx,hl],allB_iff.2 (fun v hv=>?_)⟩;obtain ⟨i,hi,rfl⟩:=List.getElem_of_mem hv;rw [List.getElem_mapIdx];exact smallB_in hq _ _
theorem fbv_len16 {m:List Int} (h:FbOk m):(fbv m).length=16:=by rw [fbv,if_pos h,settledL_len,turnedL_len,h.1]
def scat (out:List Int) (kk:Nat) (v:List Int):Nat→List Int
 | 0=>out
 | i + 1=>(scat out kk v i).set (atq kk i) (rd v (i:Int))
theorem scat_len (out:List Int) (kk:Nat) (v:List Int):∀ i,(scat out kk v i).length=out.length
 | 0=>rfl
 | i + 1=>by rw [scat,List.length_set,scat_len out kk v i]
def slc (l:List Int) (kk:Nat):List Int:=(l.take (16 * kk + 16)).drop (16 * kk)
theorem slc_len (l:List Int) (hl:l.length=64) (kk:Nat) (hk:kk < 4):(slc l kk).length=16:=by
 unfold slc;rw [List.length_drop,List.length_take];omega
def outb (l:List Int) (q:Int):Nat→List Int
 | 0=>List.replicate 64 0
 | kk + 1=>scat (outb l q kk) kk (fbv ((unscv 4 (slc l kk)).mapIdx (fun i x=>smallB x q (i:Int)))) 16
theorem outb_len (l:List Int) (q:Int):∀ k,(outb l q k).length=64
 | 0=>by simp [outb]
 | k + 1=>by rw [outb,scat_len,outb_len l q k]
def lbN (l:List Int) (q:Int) (c d:Bool):List Int × Bool :=
 if (l.length=64∧allB (-5000) 5000 l=true)∧condB q c d=true then (if d=true then (unscv 8 l,true) else (if c=true then (ebv ((unscv 8 l).map (largeB · q)),true) else (outb l q 4,true))) else ([],false)
theorem lbN_len (l:List Int) (q:Int) (c d:Bool):(lbN l q c d).1.length≤64:=by
 unfold lbN
 split
 ·rename_i h
  split
  ·exact Nat.le_of_eq (by show (unscv 8 l).length=64;rw [unscv_len,h.1.1])
  ·split
   ·exact ebv_len _
   ·have h4:=outb_len l q 4;generalize outb l q 4=o at h4 ⊢;exact Nat.le_of_eq h4
 ·exact Nat.zero_le _
theorem Ev.of_some {α:Type} {x:Option α} {v:α} (h:x=some v):Ev (fun _=>x) v:=by rw [h];exact Ev.now _
theorem largeback_val {q:Int} (hq:0≤q∧q≤40) (x:Int):impl_LargeBack.f x q=some (largeB x q):=by
 unfold impl_LargeBack.f largeB;rw [within_eq,Option.bind_some];by_cases c:-5000≤x∧x≤5000
 ·rw [if_pos (decide_eq_true c),if_pos c,step_val,Option.bind_some]
 ·rw [if_neg (by simpa using c),if_neg c]
theorem slargeback_ev {q:Int} (hq:0≤q∧q≤40) (x:Int):Ev (fun k=>spec_LargeBack.f k x q) (largeB x q):=by
 unfold spec_LargeBack.f largeB;simp only [in_eq,Option.bind_some];by_cases c:-5000≤x∧x≤5000
 ·rw [if_pos c];simp only [decide_eq_true c,if_true];exact Ev.bind (sstep_ev hq) (Ev.now _)
 ·rw [if_neg c];simp only [decide_eq_false c,Bool.false_eq_true,if_false];exact Ev.now _
theorem smallback_ev (x q p:Int):Ev (fun k=>impl_SmallBack.f k x q p) (smallB x q p):=by
 unfold impl_SmallBack.f smallB;simp only [within_eq,Option.bind_some];by_cases c:-5000≤x∧x≤5000
 ·rw [if_pos c];simp only [decide_eq_true c,if_true];exact Ev.bind (scale_ev q p) (Ev.now _)
 ·rw [if_neg c];simp only [decide_eq_false c,Bool.false_eq_true,if_false];exact Ev.now _
theorem ssmallback_ev (x q p:Int):Ev (fun k=>spec_SmallBack.f k x q p) (smallB x q p):=by
 unfold spec_SmallBack.f smallB;simp only [in_eq,Option.bind_some];by_cases c:-5000≤x∧x≤5000
 ·rw [if_pos c];simp only [decide_eq_true c,if_true];exact Ev.bind (sscale_ev q p) (Ev.now _)
 ·rw [if_neg c];simp only [decide_eq_false c,Bool.false_eq_true,if_false];exact Ev.now _
theorem back_large (l:List Int) (hl:l.length=64) (a:Bool) (q:Int) (hq:0≤q∧q≤40) (c d:Bool):Ev (fun k=>impl_LevelsBack.l0 k l 64 0 a q c d) (ebv (l.map (largeB · q)),true):=by
 obtain ⟨m,hm⟩:∃ m,m=l.map (largeB · q):=⟨_,rfl⟩
 have lm:m.length=64:=by rw [hm,List.length_map,hl]
 rw [← hm];have H:∀ i,i≤64→Ev (fun k=>impl_LevelsBack.l0 k (m.take i ++ l.drop i) 64 (i:Int) a q c d) (ebv m,true):=by
  refine down 64 ?_ ?_
  ·have e:m.take 64 ++ l.drop 64=m:=by rw [List.take_of_length_le (by omega),List.drop_eq_nil_of_le (by omega),List.append_nil]
   refine Ev.step (f:=fun k=>(impl_EightBack.f k m).bind fun t=>(some (t,true))) (fun k=>?_) (Ev.bind (eightback_ev m (by omega)) (Ev.now _));simp only [impl_LevelsBack.l0];rw [if_neg (by omega),e]
  ·intro i hi h;have hr:=mix_rd m l i (by omega) (by omega);have hlen:=mix_length m l i (by omega) (by omega);have hset:=mix_set m l i (by omega) (by omega);have hv:m[i]'(by omega)=largeB (l[i]'(by omega)) q:=by simp [hm]
   rw [hv] at hset;refine Ev.step (f:=fun k=>(impl_LargeBack.f (l[i]'(by omega)) q).bind fun t=>impl_LevelsBack.l0 k ((m.take i ++ l.drop i).set i t) 64 ((i:Int) + 1) a q c d) (fun k=>?_) (Ev.bind (Ev.of_some (largeback_val hq _)) ?_)
   ·simp only [impl_LevelsBack.l0];rw [if_pos (by omega),if_pos (by omega),if_pos (by rw [hlen];omega),hr,Int.toNat_natCast,wrap_id (x:=(i:Int) + 1) (by omega) (by omega)]
   ·rw [hset];exact h
 have h0:=H 0 (by omega);exact h0
theorem back_scat (x0 out v:List Int) (kk:Nat) (hk:kk < 4) (ho:out.length=64) (hv:v.length=16) (a:Bool) (q:Int) (c d:Bool) (R:List Int × Bool)
  (h:Ev (fun k=>impl_LevelsBack.l1 k x0 (scat out kk v 16) ((kk + 1:Nat):Int) a q c d) R):Ev (fun k=>impl_LevelsBack.l3 k x0 out v (kk:Int) (qL kk) 16 0 a q c d) R:=by
 have H:∀ i,i≤16→Ev (fun k=>impl_LevelsBack.l3 k x0 (scat out kk v i) v (kk:Int) (qL kk) 16 (i:Int) a q c d) R:=by
  refine down 16 ?_ ?_
  ·refine Ev.step (fun k=>?_) h;simp only [impl_LevelsBack.l3];rw [if_neg (by omega),wrap_id (x:=(kk:Int) + 1) (by omega) (by omega),cast1]
  ·intro i hi h1;have hq:=qL_rd kk i hi;have hat:=atq_lt kk i hk hi;refine Ev.step (fun k=>?_) h1;simp only [impl_LevelsBack.l3];rw [if_pos (by omega),if_pos (by omega),if_pos (by rw [qL_len];omega),if_pos (by omega),hq,if_pos (by omega),if_pos (by rw [scat_len,ho];omega),Int.toNat_natCast,wrap_id (x:=(i:Int) + 1) (by omega) (by omega),cast1]
   rfl
 exact H 0 (by omega)
theorem back_small (x0 out:List Int) (kk:Nat) (hk:kk < 4) (ho:out.length=64) (l:List Int) (hl:l.length=16) (a:Bool) (q:Int) (hq:0≤q∧q≤40) (c d:Bool) (R:List Int × Bool)
  (h:Ev (fun k=>impl_LevelsBack.l1 k x0 (scat out kk (fbv (l.mapIdx (fun i x=>smallB x q (i:Int)))) 16) ((kk + 1:Nat):Int) a q c d) R):Ev (fun k=>impl_LevelsBack.l2 k x0 out (kk:Int) l (kk:Int) 16 0 a q c d) R:=by
 have hok:=smallB_ok l hl hq;obtain ⟨m,hm⟩:∃ m,m=l.mapIdx (fun i x=>smallB x q (i:Int)):=⟨_,rfl⟩
 have lm:m.length=16:=by rw [hm,List.length_mapIdx,hl]
 rw [← hm] at h hok;have H:∀ i,i≤16→Ev (fun k=>impl_LevelsBack.l2 k x0 out (kk:Int) (m.take i ++ l.drop i) (kk:Int) 16 (i:Int) a q c d) R:=by
  refine down 16 ?_ ?_
  ·have e:m.take 16 ++ l.drop 16=m:=by rw [List.take_of_length_le (by omega),List.drop_eq_nil_of_le (by omega),List.append_nil]
   have hF:((fbv m).length:Nat)=16:=fbv_len16 hok;refine Ev.step (f:=fun k=>(impl_FourBack.f k m).bind fun t=>((impl_quarter.f k (kk:Int)).bind fun u=>(impl_LevelsBack.l3 k x0 out t (kk:Int) u (u.length:Int) 0 a q c d))) (fun k=>?_) (Ev.bind (fourback_ev m (by omega)) (Ev.bind (quarter_ev kk hk) ?_))
   ·simp only [impl_LevelsBack.l2];rw [if_neg (by omega),e]
   ·rw [qL_len];exact back_scat x0 out (fbv m) kk hk ho hF a q c d R h
  ·intro i hi h1;have hr:=mix_rd m l i (by omega) (by omega);have hlen:=mix_length m l i (by omega) (by omega);have hset:=mix_set m l i (by omega) (by omega);have hv:m[i]'(by omega)=smallB (l[i]'(by omega)) q (i:Int):=by simp [hm]
   rw [hv] at hset;refine Ev.step (f:=fun k=>(impl_SmallBack.f k (l[i]'(by omega)) q (i:Int)).bind fun t=>impl_LevelsBack.l2 k x0 out (kk:Int) ((m.take i ++ l.drop i).set i t) (kk:Int) 16 ((i:Int) + 1) a q c d) (fun k=>?_) (Ev.bind (smallback_ev _ q _) ?_)
   ·simp only [impl_LevelsBack.l2];rw [if_pos (by omega),if_pos (by omega),if_pos (by rw [hlen];omega),hr,Int.toNat_natCast,wrap_id (x:=(i:Int) + 1) (by omega) (by omega)]
   ·rw [hset];exact h1
 have h0:=H 0 (by omega);exact h0
theorem back_rounds (l:List Int) (hl:l.length=64) (a:Bool) (q:Int) (hq:0≤q∧q≤40) (c d:Bool):Ev (fun k=>impl_LevelsBack.l1 k l (List.replicate 64 0) 0 a q c d) (outb l q 4,true):=by
 have H:∀ kk,kk≤4→Ev (fun k=>impl_LevelsBack.l1 k l (outb l q kk) (kk:Int) a q c d) (outb l q 4,true):=by
  refine down 4 ?_ ?_
  ·exact Ev.step (f:=fun _=>some (outb l q 4,true)) (fun k=>by simp only [impl_LevelsBack.l1];rw [if_neg (by omega)]) (Ev.now _)
  ·intro kk hk h;have lz:=slc_len l hl kk hk;have h3:=back_small l (outb l q kk) kk hk (outb_len l q kk) (unscv 4 (slc l kk)) (by rw [unscv_len,lz]) a q hq c d _ h;have hs:=unscanned_ev 4 (slc l kk);rw [if_pos (show ScOk 4 (slc l kk) from Or.inl ⟨rfl,lz⟩)] at hs;have e1:wrap64 (16 * (kk:Int))=((16 * kk:Nat):Int):=by rw [wrap_id (by omega) (by omega)];omega
   have e2:wrap64 (((16 * kk:Nat):Int) + 16)=((16 * kk + 16:Nat):Int):=by rw [wrap_id (by omega) (by omega)];omega
   refine Ev.step (f:=fun k=>(impl_Unscanned.f k 4 (slc l kk)).bind fun bt=>(impl_LevelsBack.l2 k l (outb l q kk) (kk:Int) bt.1 (kk:Int) (bt.1.length:Int) 0 a q c d)) (fun k=>?_) (Ev.bind hs ?_)
   ·simp only [impl_LevelsBack.l1,e1,e2];rw [if_pos (by omega),if_pos (by omega),if_pos (by omega),if_pos (by omega),Int.toNat_natCast,Int.toNat_natCast]
    rfl
   ·rw [show ((unscv 4 (slc l kk)).length:Int)=16 from by rw [unscv_len,lz];rfl];exact h3
 exact H 0 (by omega)
theorem levelsback_ev (l:List Int) (hl:l.length≤17592186043904) (a:Bool) (q:Int) (c d:Bool):Ev (fun k=>impl_LevelsBack.f k l a q c d) (lbN l q c d):=by
 have hbad:Ev (fun k=>impl_LevelsBack.j0 k l true a q c d) ([],false):=Ev.step (f:=fun _=>some ([],false)) (fun k=>by simp only [impl_LevelsBack.j0];rfl) (Ev.now _);unfold impl_LevelsBack.f lbN;have hA:Ev (fun k=>impl_areLevels.f k l) (decide ((l.length:Int)=64) && allB (-5000) 5000 l):=by
  unfold impl_areLevels.f;exact Ev.bind (areIn_ev l 64 (-5000) 5000 hl) (Ev.now _)
 refine Ev.bind hA ?_;rw [len_dec4 l 64 64 rfl];by_cases h0:l.length=64∧allB (-5000) 5000 l=true
 ·rw [decide_eq_true h0.1,h0.2];simp only [Bool.and_self,if_true,cond_val,Option.bind_some];cases hc:condB q c d with
  | false =>
   rw [if_neg (fun h=>by cases h.2)];exact hbad
  | true =>
   rw [if_pos ⟨⟨h0.1,trivial⟩,rfl⟩];have hq:=condB_in hc;have hs:=unscanned_ev 8 l;rw [if_pos (show ScOk 8 l from Or.inr ⟨rfl,h0.1⟩)] at hs;cases d with
   | true =>
    refine Ev.step (fun k=>by simp only [impl_LevelsBack.j0,Bool.and_self,Bool.not_true,Bool.false_eq_true,if_false,if_true];rfl) (Ev.bind hs ?_);simp only [if_true];exact Ev.now _
   | false =>
    cases c with
    | true =>
     have hu:(unscv 8 l).length=64:=by rw [unscv_len,h0.1]
     refine Ev.step (fun k=>by simp only [impl_LevelsBack.j0,Bool.and_self,Bool.not_true,Bool.false_eq_true,if_false,if_true];rfl) (Ev.bind hs ?_);rw [show ((unscv 8 l).length:Int)=64 from by rw [hu];rfl];exact back_large _ hu a q hq true false
    | false =>
     have g:(64:Nat)≤35184372088832:=by omega
     refine Ev.step (fun k=>by simp only [impl_LevelsBack.j0,Bool.and_self,Bool.not_true,Bool.false_eq_true,if_false,g,if_true]) (back_rounds l h0.1 a q hq false false)
 ·rw [and_false4 h0,if_neg (fun h=>h0 h.1)];simp only [Bool.false_eq_true,if_false];exact hbad
theorem sback_large (l:List Int) (hl:l.length=64) (a:Bool) (q:Int) (hq:0≤q∧q≤40) (c d:Bool):Ev (fun k=>spec_LevelsBack.l0 k l 0 a q c d) (ebv (l.map (largeB · q)),true):=by
 obtain ⟨m,hm⟩:∃ m,m=l.map (largeB · q):=⟨_,rfl⟩
 have lm:m.length=64:=by rw [hm,List.length_map,hl]
 rw [← hm];have H:∀ i,i≤64→Ev (fun k=>spec_LevelsBack.l0 k (m.take i ++ l.drop i) (i:Int) a q c d) (ebv m,true):=by
  refine down 64 ?_ ?_
  ·have e:m.take 64 ++ l.drop 64=m:=by rw [List.take_of_length_le (by omega),List.drop_eq_nil_of_le (by omega),List.append_nil]
   refine Ev.step (f:=fun k=>(spec_EightBack.f k m).bind fun t=>(some (t,true))) (fun k=>?_) (Ev.bind (seightback_ev m (by omega)) (Ev.now _));simp only [spec_LevelsBack.l0];rw [if_neg (by omega),e]
  ·intro i hi h;have hr:=mix_rd m l i (by omega) (by omega);have hlen:=mix_length m l i (by omega) (by omega);have hset:=mix_set m l i (by omega) (by omega);have hv:m[i]'(by omega)=largeB (l[i]'(by omega)) q:=by simp [hm]
   rw [hv] at hset;refine Ev.step (f:=fun k=>(spec_LargeBack.f k (l[i]'(by omega)) q).bind fun t=>spec_LevelsBack.l0 k ((m.take i ++ l.drop i).set i t) ((i:Int) + 1) a q c d) (fun k=>?_) (Ev.bind (slargeback_ev hq _) ?_)
   ·simp only [spec_LevelsBack.l0];rw [if_pos (by omega),if_pos (by omega),if_pos (by rw [hlen];omega),hr,Int.toNat_natCast,wrap_id (x:=(i:Int) + 1) (by omega) (by omega)]
   ·rw [hset];exact h
 have h0:=H 0 (by omega);exact h0
theorem sback_scat (x0 out v:List Int) (kk:Nat) (hk:kk < 4) (ho:out.length=64) (hv:v.length=16) (a:Bool) (q:Int) (c d:Bool) (R:List Int × Bool)
  (h:Ev (fun k=>spec_LevelsBack.l1 k x0 (scat out kk v 16) ((kk + 1:Nat):Int) a q c d) R):Ev (fun k=>spec_LevelsBack.l3 k x0 out (kk:Int) v 0 a q c d) R:=by
 have H:∀ i,i≤16→Ev (fun k=>spec_LevelsBack.l3 k x0 (scat out kk v i) (kk:Int) v (i:Int) a q c d) R:=by
  refine down 16 ?_ ?_
  ·refine Ev.step (fun k=>?_) h;simp only [spec_LevelsBack.l3];rw [if_neg (by omega),wrap_id (x:=(kk:Int) + 1) (by omega) (by omega),cast1]
  ·intro i hi h1;have hat:=atq_lt kk i hk hi;have ha:=atq_fin ⟨kk,hk⟩ ⟨i,hi⟩;refine Ev.step (fun k=>?_) h1;simp only [spec_LevelsBack.l3,ha];rw [if_pos (by omega),if_pos (by omega),if_pos (by omega),if_pos (by omega),if_pos (by rw [scat_len,ho];omega),Int.toNat_natCast,wrap_id (x:=(i:Int) + 1) (by omega) (by omega),cast1]
   rfl
 exact H 0 (by omega)
theorem sback_small (x0 out:List Int) (kk:Nat) (hk:kk < 4) (ho:out.length=64) (l:List Int) (hl:l.length=16) (a:Bool) (q:Int) (hq:0≤q∧q≤40) (c d:Bool) (R:List Int × Bool)
  (h:Ev (fun k=>spec_LevelsBack.l1 k x0 (scat out kk (fbv (l.mapIdx (fun i x=>smallB x q (i:Int)))) 16) ((kk + 1:Nat):Int) a q c d) R):Ev (fun k=>spec_LevelsBack.l2 k x0 out (kk:Int) l 0 a q c d) R:=by
 have hok:=smallB_ok l hl hq;obtain ⟨m,hm⟩:∃ m,m=l.mapIdx (fun i x=>smallB x q (i:Int)):=⟨_,rfl⟩
 have lm:m.length=16:=by rw [hm,List.length_mapIdx,hl]
 rw [← hm] at h hok;have H:∀ i,i≤16→Ev (fun k=>spec_LevelsBack.l2 k x0 out (kk:Int) (m.take i ++ l.drop i) (i:Int) a q c d) R:=by
  refine down 16 ?_ ?_
  ·have e:m.take 16 ++ l.drop 16=m:=by rw [List.take_of_length_le (by omega),List.drop_eq_nil_of_le (by omega),List.append_nil]
   have hF:((fbv m).length:Nat)=16:=fbv_len16 hok;refine Ev.step (f:=fun k=>(spec_FourBack.f k m).bind fun t=>(spec_LevelsBack.l3 k x0 out (kk:Int) t 0 a q c d)) (fun k=>?_) (Ev.bind (sfourback_ev m (by omega)) (sback_scat x0 out (fbv m) kk hk ho hF a q c d R h));simp only [spec_LevelsBack.l2];rw [if_neg (by omega),e]
  ·intro i hi h1;have hr:=mix_rd m l i (by omega) (by omega);have hlen:=mix_length m l i (by omega) (by omega);have hset:=mix_set m l i (by omega) (by omega);have hv:m[i]'(by omega)=smallB (l[i]'(by omega)) q (i:Int):=by simp [hm]
   rw [hv] at hset;refine Ev.step (f:=fun k=>(spec_SmallBack.f k (l[i]'(by omega)) q (i:Int)).bind fun t=>spec_LevelsBack.l2 k x0 out (kk:Int) ((m.take i ++ l.drop i).set i t) ((i:Int) + 1) a q c d) (fun k=>?_) (Ev.bind (ssmallback_ev _ q _) ?_)
   ·simp only [spec_LevelsBack.l2];rw [if_pos (by omega),if_pos (by omega),if_pos (by rw [hlen];omega),hr,Int.toNat_natCast,wrap_id (x:=(i:Int) + 1) (by omega) (by omega)]
   ·rw [hset];exact h1
 have h0:=H 0 (by omega);exact h0
theorem sback_rounds (l:List Int) (hl:l.length=64) (a:Bool) (q:Int) (hq:0≤q∧q≤40) (c d:Bool):Ev (fun k=>spec_LevelsBack.l1 k l (List.replicate 64 0) 0 a q c d) (outb l q 4,true):=by
 have H:∀ kk,kk≤4→Ev (fun k=>spec_LevelsBack.l1 k l (outb l q kk) (kk:Int) a q c d) (outb l q 4,true):=by
  refine down 4 ?_ ?_
  ·exact Ev.step (f:=fun _=>some (outb l q 4,true)) (fun k=>by simp only [spec_LevelsBack.l1];rw [if_neg (by omega)]) (Ev.now _)
  ·intro kk hk h;have lz:=slc_len l hl kk hk;have h3:=sback_small l (outb l q kk) kk hk (outb_len l q kk) (unscv 4 (slc l kk)) (by rw [unscv_len,lz]) a q hq c d _ h;have hs:=sunscanned_ev 4 (slc l kk);rw [if_pos (show ScOk 4 (slc l kk) from Or.inl ⟨rfl,lz⟩)] at hs;have e1:wrap64 (16 * (kk:Int))=((16 * kk:Nat):Int):=by rw [wrap_id (by omega) (by omega)];omega
   have e2:wrap64 (((16 * kk:Nat):Int) + 16)=((16 * kk + 16:Nat):Int):=by rw [wrap_id (by omega) (by omega)];omega
   refine Ev.step (f:=fun k=>(spec_Unscanned.f k 4 (slc l kk)).bind fun bt=>(spec_LevelsBack.l2 k l (outb l q kk) (kk:Int) bt.1 0 a q c d)) (fun k=>?_) (Ev.bind hs ?_)
   ·simp only [spec_LevelsBack.l1,e1,e2];rw [if_pos (by omega),if_pos (by omega),if_pos (by omega),if_pos (by omega),Int.toNat_natCast,Int.toNat_natCast]
    rfl
   ·exact h3
 exact H 0 (by omega)
theorem slevelsback_ev (l:List Int) (hl:l.length≤17592186043904) (a:Bool) (q:Int) (c d:Bool):Ev (fun k=>spec_LevelsBack.f k l a q c d) (lbN l q c d):=by
 have hbad:Ev (fun k=>spec_LevelsBack.j0 k l true a q c d) ([],false):=Ev.step (f:=fun _=>some ([],false)) (fun k=>by simp only [spec_LevelsBack.j0];rfl) (Ev.now _);unfold spec_LevelsBack.f lbN;simp only [scond_val,Option.bind_some];cases hc:condB q c d with
 | false =>
  simp only [Bool.false_eq_true,if_false,and_false];exact hbad
 | true =>
  have hq:=condB_in hc;simp only [if_true,and_true];refine Ev.bind (all_ev l 64 5000 hl (by omega) (by omega)) ?_;rw [len_dec4 l 64 64 rfl];by_cases h0:l.length=64∧allB (-5000) 5000 l=true
  ·rw [decide_eq_true h0.1,h0.2,if_pos ⟨h0.1,rfl⟩];have hs:=sunscanned_ev 8 l;rw [if_pos (show ScOk 8 l from Or.inr ⟨rfl,h0.1⟩)] at hs;cases d with
   | true =>
    refine Ev.step (fun k=>by simp only [spec_LevelsBack.j0,Bool.and_self,Bool.not_true,Bool.false_eq_true,if_false,if_true];rfl) (Ev.bind hs ?_);simp only [if_true];exact Ev.now _
   | false =>
    cases c with
    | true =>
     have hu:(unscv 8 l).length=64:=by rw [unscv_len,h0.1]
     refine Ev.step (fun k=>by simp only [spec_LevelsBack.j0,Bool.and_self,Bool.not_true,Bool.false_eq_true,if_false,if_true];rfl) (Ev.bind hs ?_);exact sback_large _ hu a q hq true false
    | false =>
     have g:(64:Nat)≤35184372088832:=by omega
     refine Ev.step (fun k=>by simp only [spec_LevelsBack.j0,Bool.and_self,Bool.not_true,Bool.false_eq_true,if_false,g,if_true]) (sback_rounds l h0.1 a q hq false false)
  ·rw [and_false4 h0,if_neg h0];exact hbad
/-- A side of edges is right: nothing, or eight dots. -/
def sideB (l:List Int):Bool:=decide (l.length=0) || (decide (l.length=8) && allB 0 255 l)
def edgesB (a l:List Int) (c:Int):Bool:=sideB a && (sideB l && decide (-1≤c∧c≤255))
theorem len_dec' (l:List Int) (n:Nat) (m:Int) (h:m=(n:Int)):decide ((l.length:Int)=m)=decide (l.length=n):=by rw [decide_eq_decide];omega
theorem side_loop (l:List Int) (hl:l.length≤17592186043904):∀ i,i≤l.length→Ev (fun k=>spec_l13Side.l0 k l (i:Int)) (allB 0 255 (l.drop i)):=by
 refine down l.length ?_ ?_
 ·refine Ev.step (f:=fun _=>some true) (fun k=>?_) (by rw [List.drop_length];exact Ev.now _);simp only [spec_l13Side.l0];rw [if_neg (by omega)]
 ·intro i h1 h;rw [drop_cons h1,allB_cons];by_cases c:0≤l[i]∧l[i]≤255
  ·rw [decide_eq_true c,Bool.true_and];refine Ev.step (fun k=>?_) h;simp only [spec_l13Side.l0];rw [if_pos (by omega),if_pos (by omega),rd_nat l i h1,in_eq,Option.bind_some,if_pos (decide_eq_true c),wrap_id (by omega) (by omega),cast1]
  ·rw [decide_eq_false c,Bool.false_and];refine Ev.step (f:=fun _=>some false) (fun k=>?_) (Ev.now _);simp only [spec_l13Side.l0];rw [if_pos (by omega),if_pos (by omega),rd_nat l i h1,in_eq,Option.bind_some,if_neg (by simpa using c)]
theorem side_ev (l:List Int) (hl:l.length≤17592186043904):Ev (fun k=>spec_l13Side.f k l) (sideB l):=by
 unfold spec_l13Side.f sideB;by_cases c0:l.length=0
 ·have e:l=[]:=List.eq_nil_of_length_eq_zero c0;subst e;refine Ev.congr (f:=fun k=>spec_l13Side.j0 k [] false) (fun k=>rfl) (Ev.step (fun k=>by simp only [spec_l13Side.j0,Bool.false_eq_true,if_false];rfl) ?_);exact side_loop [] (by simp) 0 (by simp)
 ·rw [decide_eq_false c0,Bool.false_or];by_cases c8:l.length=8
  ·rw [decide_eq_true c8,Bool.true_and];refine Ev.congr (fun k=>by rw [if_neg (by omega),show ((l.length:Int) != 8)=false by rw [bne_eq_false_iff_eq];omega]) (Ev.step (fun k=>by simp only [spec_l13Side.j0,Bool.false_eq_true,if_false];rfl) ?_);exact side_loop l hl 0 (by omega)
  ·rw [decide_eq_false c8,Bool.false_and];refine Ev.congr (fun k=>by rw [if_neg (by omega),show ((l.length:Int) != 8)=true by rw [bne_iff_ne];omega]) (Ev.step (f:=fun _=>some false) (fun k=>by simp only [spec_l13Side.j0];rfl) (Ev.now _))
theorem sedges_ev (a l:List Int) (c:Int) (ha:a.length≤17592186043904) (hl:l.length≤17592186043904):Ev (fun k=>spec_EdgesOk.f k a l c) (edgesB a l c):=by
 unfold spec_EdgesOk.f edgesB;refine Ev.bind (side_ev a ha) ?_;cases sideB a with
 | false=>simp only [Bool.false_eq_true,if_false,Bool.false_and];exact Ev.now _
 | true =>
  simp only [if_true,Bool.true_and];refine Ev.bind (side_ev l hl) ?_;cases sideB l with
  | false=>simp only [Bool.false_eq_true,if_false,Bool.false_and];exact Ev.now _
  | true =>
   simp only [if_true,Bool.true_and,in_eq,Option.bind_some];exact Ev.now _
theorem edge_round (a b l:List Int) (c:Int) (i:Int) (r:Bool) (x y:List Int) (hx:rd_L2 [x,y] i=a) (hi:i=0∨i=1) (ha:a.length≤17592186043904)
  (h:Ev (fun k=>impl_EdgesOk.l0 k [x,y] 2 (i + 1) b l c) r):Ev (fun k=>impl_EdgesOk.l0 k [x,y] 2 i b l c) (sideB a && r):=by
 unfold sideB;have hlen:(([x,y]:List (List Int)).length:Int)=2:=rfl;by_cases c0:a.length=0
 ·rw [decide_eq_true c0,Bool.true_or,Bool.true_and];refine Ev.step (fun k=>?_) h;simp only [impl_EdgesOk.l0];rw [if_pos (by omega),if_pos (by omega),if_pos (by omega),hx,if_neg (by omega),wrap_id (by omega) (by omega)]
 ·rw [decide_eq_false c0,Bool.false_or];refine Ev.step (f:=fun k=>(impl_areIn.f k a 8 0 255).bind fun t=>(if t=true then (impl_EdgesOk.l0 k [x,y] 2 (i + 1) b l c) else (some false))) (fun k=>?_) (Ev.bind (areIn_ev a 8 0 255 ha) ?_)
  ·simp only [impl_EdgesOk.l0];rw [if_pos (by omega),if_pos (by omega),if_pos (by omega),hx,if_pos (by omega),wrap_id (by omega) (by omega)]
  ·rw [len_dec' a 8 8 rfl];cases (decide (a.length=8) && allB 0 255 a) with
   | false=>simp only [Bool.false_eq_true,if_false,Bool.false_and];exact Ev.now _
   | true=>simp only [if_true,Bool.true_and];exact h
theorem edges_ev (a l:List Int) (c:Int) (ha:a.length≤17592186043904) (hl:l.length≤17592186043904):Ev (fun k=>impl_EdgesOk.f k a l c) (edgesB a l c):=by
 unfold impl_EdgesOk.f edgesB;simp only [Option.bind_some];refine edge_round a a l c 0 _ a l rfl (.inl rfl) ha ?_;refine edge_round l a l c 1 _ a l rfl (.inr rfl) hl ?_;refine Ev.step (f:=fun _=>some (decide (-1≤c∧c≤255))) (fun k=>?_) (Ev.now _);simp only [impl_EdgesOk.l0];rw [if_neg (by omega),within_eq]
 rfl
def isum:List Int→Int
 | []=>0
 | x :: l=>x + isum l
theorem isum_bound (l:List Int) (h:∀ x ∈ l,0≤x∧x≤255):0≤isum l∧isum l≤255 * (l.length:Int):=by
 induction l with
 | nil=>simp [isum]
 | cons x l ih =>
  have h1:=h x (by simp);have h2:=ih (fun y hy=>h y (by simp [hy]));simp only [isum,List.length_cons];omega
def orG (l:List Int):List Int:=if l.length=0 then [128,128,128,128,128,128,128,128] else l
def midV (a l:List Int):Int:=if a.length + l.length=0 then 128 else (isum a + isum l + ((a.length + l.length:Nat):Int) / 2) / ((a.length + l.length:Nat):Int)
def cornG (c:Int):Int:=if c < 0 then 128 else c
def guessAt (mode:Int) (a l:List Int) (c:Int) (i:Nat):Int :=
 if mode=0 then midV a l else if mode=1 then rd (orG a) ((i % 8:Nat):Int) else if mode=2 then rd (orG l) ((i / 8:Nat):Int) else mx 0 (mn (rd (orG l) ((i / 8:Nat):Int) + rd (orG a) ((i % 8:Nat):Int) - cornG c) 255)
def guessV (mode:Int) (a l:List Int) (c:Int):List Int:=(List.range 64).map (guessAt mode a l c)
theorem guessV_len (mode:Int) (a l:List Int) (c:Int):(guessV mode a l c).length=64:=by simp [guessV]
theorem guessV_get (mode:Int) (a l:List Int) (c:Int) (i:Nat) (h:i < (guessV mode a l c).length):(guessV mode a l c)[i]=guessAt mode a l c i:=by simp [guessV]
def guessR (mode:Int) (a l:List Int) (c:Int):List Int:=if edgesB a l c=true∧0≤mode∧mode≤3 then guessV mode a l c else []
/-- What right edges are. -/
structure EdR (a l:List Int) (c:Int):Prop where
 la:a.length=0∨a.length=8
 ll:l.length=0∨l.length=8
 ba:∀ x ∈ a,0≤x∧x≤255
 bl:∀ x ∈ l,0≤x∧x≤255
 bc:-1≤c∧c≤255
theorem sideB_iff {l:List Int} (h:sideB l=true):(l.length=0∨l.length=8)∧∀ x ∈ l,0≤x∧x≤255:=by
 unfold sideB at h;rw [Bool.or_eq_true,Bool.and_eq_true,decide_eq_true_eq,decide_eq_true_eq] at h;rcases h with h | ⟨h,hb⟩
 ·exact ⟨.inl h,fun x hx=>by rw [List.eq_nil_of_length_eq_zero h] at hx;simp at hx⟩
 ·exact ⟨.inr h,allB_iff.1 hb⟩
theorem edgesB_right {a l:List Int} {c:Int} (h:edgesB a l c=true):EdR a l c:=by
 unfold edgesB at h;rw [Bool.and_eq_true,Bool.and_eq_true,decide_eq_true_eq] at h;have h1:=sideB_iff h.1;have h2:=sideB_iff h.2.1;exact ⟨h1.1,h2.1,h1.2,h2.2,h.2.2⟩
theorem right_sideB {l:List Int} (h:l.length=0∨l.length=8) (hb:∀ x ∈ l,0≤x∧x≤255):sideB l=true:=by
 unfold sideB;rw [Bool.or_eq_true,Bool.and_eq_true,decide_eq_true_eq,decide_eq_true_eq];rcases h with h | h
 ·exact .inl h
 ·exact .inr ⟨h,allB_iff.2 hb⟩
theorem right_edgesB {a l:List Int} {c:Int} (h:EdR a l c):edgesB a l c=true:=by
 unfold edgesB;rw [Bool.and_eq_true,Bool.and_eq_true,decide_eq_true_eq];exact ⟨right_sideB h.la h.ba,right_sideB h.ll h.bl,h.bc⟩
theorem orG_len {l:List Int} (h:l.length=0∨l.length=8):(orG l).length=8:=by
 unfold orG;rcases h with h | h
 ·rw [if_pos h];rfl
 ·rw [if_neg (by omega)];exact h
theorem orG_in {l:List Int} (hb:∀ x ∈ l,0≤x∧x≤255):∀ x ∈ orG l,0≤x∧x≤255:=by
 unfold orG
 split
 ·intro x hx;simp at hx;omega
 ·exact hb
theorem orG_rd {l:List Int} (h:l.length=0∨l.length=8) (hb:∀ x ∈ l,0≤x∧x≤255) (i:Nat) (hi:i < 8):0≤rd (orG l) (i:Int)∧rd (orG l) (i:Int)≤255:=by
 rw [rd_nat _ i (by rw [orG_len h];exact hi)];exact orG_in hb _ (List.getElem_mem _)
theorem midV_in {a l:List Int} {c:Int} (h:EdR a l c):0≤midV a l∧midV a l≤255:=by
 unfold midV;have h1:=isum_bound a h.ba;have h2:=isum_bound l h.bl;by_cases c0:a.length + l.length=0
 ·rw [if_pos c0];omega
 ·rw [if_neg c0];have hn:a.length + l.length=8∨a.length + l.length=16:=by rcases h.la with e | e <;> rcases h.ll with e' | e' <;> omega
  rcases hn with e | e <;> rw [e] <;> omega
theorem guessAt_in {a l:List Int} {c mode:Int} (h:EdR a l c) (i:Nat) (hi:i < 64):0≤guessAt mode a l c i∧guessAt mode a l c i≤255:=by
 unfold guessAt;have h1:=midV_in h;have h2:=orG_rd h.la h.ba (i % 8) (by omega);have h3:=orG_rd h.ll h.bl (i / 8) (by omega)
 repeat' split
 ·exact h1
 ·exact h2
 ·exact h3
 ·exact mx0 (by omega)
theorem guessV_in {a l:List Int} {c mode:Int} (h:EdR a l c):∀ x ∈ guessV mode a l c,0≤x∧x≤255:=by
 intro x hx;obtain ⟨i,hi,rfl⟩:=List.mem_iff_getElem.1 hx;rw [guessV_get];exact guessAt_in h i (by rw [guessV_len] at hi;exact hi)
theorem sumof_ev (l:List Int) (hl:l.length≤8) (hb:∀ x ∈ l,0≤x∧x≤255):Ev (fun k=>impl_sumOf.f k l) (isum l):=by
 have H:∀ i,i≤l.length→∀ s:Int,0≤s→s≤255 * (i:Int)→Ev (fun k=>impl_sumOf.l0 k s l (l.length:Int) (i:Int)) (s + isum (l.drop i)):=by
  refine down l.length ?_ ?_
  ·intro s _ _;rw [List.drop_length,isum,Int.add_zero];refine Ev.step (f:=fun _=>some s) (fun k=>?_) (Ev.now _);simp only [impl_sumOf.l0];rw [if_neg (by omega)]
  ·intro i hi h s h0 h1;have hx:=hb _ (List.getElem_mem hi);have h':=h (s + l[i]) (by omega) (by omega);rw [drop_cons hi,isum,← Int.add_assoc];refine Ev.step (fun k=>?_) h';simp only [impl_sumOf.l0];rw [if_pos (by omega),if_pos (by omega),if_pos (by omega),rd_nat l i hi,wrap_id (x:=s + l[i]) (by omega) (by omega),wrap_id (by omega) (by omega),cast1]
 have h:=H 0 (by omega) 0 (by omega) (by omega);rw [List.drop_zero,Int.zero_add] at h;exact h
theorem orgrey_eq (l:List Int):impl_orGrey.f l=some (orG l):=by
 unfold impl_orGrey.f orG;by_cases c:l.length=0
 ·rw [if_pos (by omega),if_pos c]
 ·rw [if_neg (by omega),if_neg c]
theorem guess_inner (mode:Int) (a l:List Int) (c:Int) (hm:0≤mode∧mode≤3) (h:EdR a l c) (r:Nat) (hr:r < 8) (R:List Int)
  (hh:Ev (fun k=>impl_GuessOf.l0 k mode ((guessV mode a l c).take (8 * (r + 1))) (midV a l) (orG a) (orG l) (cornG c) ((r + 1:Nat):Int)) R) :
  ∀ q:Nat,q≤8→Ev (fun k=>impl_GuessOf.l1 k mode ((guessV mode a l c).take (8 * r + q)) (midV a l) (orG a) (orG l) (cornG c) (r:Int) (r:Int) (q:Int)) R:=by
 have hl:=guessV_len mode a l c;have lA:=orG_len h.la;have lL:=orG_len h.ll;have hc:0≤cornG c∧cornG c≤255:=by unfold cornG;have:=h.bc;split <;> omega
 refine down 8 ?_ ?_
 ·refine Ev.step (fun k=>?_) hh;simp only [impl_GuessOf.l1];rw [if_neg (by omega),wrap_id (by omega) (by omega),cast1];rfl
 ·intro q hq h';have e:=guessV_get mode a l c (8 * r + q) (by omega);unfold guessAt at e;rw [show (8 * r + q) % 8=q by omega,show (8 * r + q) / 8=r by omega] at e;have r1:=orG_rd h.la h.ba q hq;have r2:=orG_rd h.ll h.bl r hr;have hlen:((guessV mode a l c).take (8 * r + q)).length < 17592186044416:=by simp;omega
  refine Ev.step (fun k=>?_) h';simp only [impl_GuessOf.l1];rw [if_pos (by omega),wrap_id (x:=(q:Int) + 1) (by omega) (by omega),cast1];by_cases m0:mode=0
  ·rw [if_pos m0] at e ⊢;rw [if_pos hlen,← e,← List.take_succ_eq_append_getElem (by omega)];rfl
  ·rw [if_neg m0] at e ⊢;by_cases m1:mode=1
   ·rw [if_pos m1] at e ⊢;rw [if_pos (by omega),if_pos (by omega),if_pos hlen,← e,← List.take_succ_eq_append_getElem (by omega)];rfl
   ·rw [if_neg m1] at e ⊢;by_cases m2:mode=2
    ·rw [if_pos m2] at e ⊢;rw [if_pos (by omega),if_pos (by omega),if_pos hlen,← e,← List.take_succ_eq_append_getElem (by omega)];rfl
    ·rw [if_neg m2] at e ⊢;rw [if_pos (by omega),if_pos (by omega),if_pos (by omega),if_pos (by omega),wrap_id (x:=rd (orG l) (r:Int) + rd (orG a) (q:Int)) (by omega) (by omega),wrap_id (x:=_ - cornG c) (by omega) (by omega)];unfold impl_Brought.f;rw [Option.bind_some,if_pos hlen,← e,← List.take_succ_eq_append_getElem (by omega)];rfl
theorem guess_rows (mode:Int) (a l:List Int) (c:Int) (hm:0≤mode∧mode≤3) (h:EdR a l c) :
  ∀ r:Nat,r≤8→Ev (fun k=>impl_GuessOf.l0 k mode ((guessV mode a l c).take (8 * r)) (midV a l) (orG a) (orG l) (cornG c) (r:Int)) (guessV mode a l c):=by
 have hl:=guessV_len mode a l c;refine down 8 ?_ ?_
 ·refine Ev.step (f:=fun _=>some (guessV mode a l c)) (fun k=>?_) (Ev.now _);simp only [impl_GuessOf.l0];rw [if_neg (by omega),List.take_of_length_le (by omega)]
 ·intro r hr h';refine Ev.step (fun k=>?_) (guess_inner mode a l c hm h r hr _ h' 0 (by omega));simp only [impl_GuessOf.l0];rw [if_pos (by omega)];rfl
theorem tdivn {x:Int} {n:Nat} (h:0≤x):Int.tdiv x (n:Int)=x / (n:Int):=Int.tdiv_eq_ediv_of_nonneg h
theorem guess_j1 (mode:Int) (a l:List Int) (c:Int) (hm:0≤mode∧mode≤3) (h:EdR a l c):Ev (fun k=>impl_GuessOf.j1 k mode [] (midV a l) a l c) (guessV mode a l c):=by
 have h0:=guess_rows mode a l c hm h 0 (by omega);have h1:Ev (fun k=>impl_GuessOf.j2 k mode [] (midV a l) (orG a) (orG l) (cornG c)) (guessV mode a l c):=Ev.step (fun k=>by simp only [impl_GuessOf.j2] <;> rfl) h0;refine Ev.step (fun k=>?_) h1;simp only [impl_GuessOf.j1,orgrey_eq,Option.bind_some];unfold cornG;by_cases c0:c < 0
 ·rw [if_pos c0,if_pos c0]
 ·rw [if_neg c0,if_neg c0]
theorem guessof_ev (mode:Int) (a l:List Int) (c:Int) (ha:a.length≤1048576) (hl:l.length≤1048576):Ev (fun k=>impl_GuessOf.f k mode a l c) (guessR mode a l c):=by
 unfold impl_GuessOf.f guessR;simp only [Option.bind_some,within_eq];have hbad:Ev (fun k=>impl_GuessOf.j0 k mode [] true a l c) []:=Ev.step (f:=fun _=>some []) (fun k=>by simp only [impl_GuessOf.j0];rfl) (Ev.now _);refine Ev.bind (edges_ev a l c (by omega) (by omega)) ?_;by_cases he:edgesB a l c=true
 ·have h:=edgesB_right he;by_cases hm:0≤mode∧mode≤3
  ·rw [if_pos ⟨he,hm⟩];simp only [he,hm,and_self,decide_true,if_true,Bool.not_true];have hj:=guess_j1 mode a l c hm h;have s1:=isum_bound a h.ba;have s2:=isum_bound l h.bl;have la:a.length≤8:=by rcases h.la with e | e <;> omega
   have ll:l.length≤8:=by rcases h.ll with e | e <;> omega
   have ew:wrap64 ((a.length:Int) + (l.length:Int))=((a.length + l.length:Nat):Int):=by rw [wrap_id (by omega) (by omega)];omega
   by_cases c0:a.length + l.length=0
   ·refine Ev.step (fun k=>?_) hj;simp only [impl_GuessOf.j0,Bool.false_eq_true,if_false,ew];rw [if_neg (by omega)];unfold midV;rw [if_pos c0]
   ·refine Ev.step (f:=fun k=>(impl_sumOf.f k a).bind fun t124=>((impl_sumOf.f k l).bind fun t125=>impl_GuessOf.j1 k mode [] (wrap64 (Int.tdiv (wrap64 ((wrap64 (t124 + t125)) + (wrap64 (Int.tdiv ((a.length + l.length:Nat):Int) 2)))) ((a.length + l.length:Nat):Int))) a l c)) (fun k=>?_) (Ev.bind (sumof_ev a la h.ba) (Ev.bind (sumof_ev l ll h.bl) ?_))
    ·simp only [impl_GuessOf.j0,Bool.false_eq_true,if_false,ew];rw [if_pos (by omega)];simp only [show ¬ (((a.length + l.length:Nat):Int)=0) from by omega,if_false]
    ·have em:wrap64 (Int.tdiv (wrap64 ((wrap64 (isum a + isum l)) + (wrap64 (Int.tdiv ((a.length + l.length:Nat):Int) 2)))) ((a.length + l.length:Nat):Int))=midV a l:=by
      have hmid:=midV_in h;unfold midV at hmid ⊢;rw [if_neg c0] at hmid ⊢;have e2:Int.tdiv ((a.length + l.length:Nat):Int) 2=((a.length + l.length:Nat):Int) / 2:=Int.tdiv_eq_ediv_of_nonneg (by omega);rw [e2,wrap_id (x:=isum a + isum l) (by omega) (by omega),wrap_id (x:=((a.length + l.length:Nat):Int) / 2) (by omega) (by omega),wrap_id (x:=isum a + isum l + _) (by omega) (by omega),tdivn (by omega),wrap_id (by omega) (by omega)]
     rw [em];exact hj
  ·rw [if_neg (fun h=>hm h.2)];simp only [he,hm,decide_false,if_true,Bool.not_false];exact hbad
 ·rw [if_neg (fun h=>he h.1)];simp only [he,if_false];exact hbad
theorem smid_l1 (a l:List Int) (c n:Int) (hn:n=8∨n=16) (hl:l.length≤8) (hb:∀ x ∈ l,0≤x∧x≤255):∀ i,i≤l.length→∀ s:Int,0≤s→s≤10000 + 255 * (i:Int)→Ev (fun k=>spec_l13Mid.l1 k n s (i:Int) a l c) ((s + isum (l.drop i)) / n):=by
 refine down l.length ?_ ?_
 ·intro s h0 h1;rw [List.drop_length,isum,Int.add_zero];refine Ev.step (f:=fun _=>some (s / n)) (fun k=>?_) (Ev.now _);simp only [spec_l13Mid.l1];rw [if_neg (by omega),if_neg (by omega),Int.tdiv_eq_ediv_of_nonneg h0]
  congr 1
  rcases hn with e | e <;> subst e <;> exact wrap_id (by omega) (by omega)
 ·intro i hi h s h0 h1;have hx:=hb _ (List.getElem_mem hi);have h':=h (s + l[i]) (by omega) (by omega);rw [drop_cons hi,isum,← Int.add_assoc];refine Ev.step (fun k=>?_) h';simp only [spec_l13Mid.l1];rw [if_pos (by omega),if_pos (by omega),rd_nat l i hi,wrap_id (x:=s + l[i]) (by omega) (by omega),wrap_id (by omega) (by omega),cast1]
theorem smid_l0 (a l:List Int) (c n:Int) (hn:n=8∨n=16) (ha:a.length≤8) (hl:l.length≤8) (hba:∀ x ∈ a,0≤x∧x≤255) (hb:∀ x ∈ l,0≤x∧x≤255):∀ i,i≤a.length→∀ s:Int,0≤s→s≤1000 + 255 * (i:Int)→Ev (fun k=>spec_l13Mid.l0 k n s (i:Int) a l c) ((s + isum (a.drop i) + isum l) / n):=by
 refine down a.length ?_ ?_
 ·intro s h0 h1;rw [List.drop_length,isum,Int.add_zero];have h':=smid_l1 a l c n hn hl hb 0 (by omega) s h0 (by omega);rw [List.drop_zero] at h';refine Ev.step (fun k=>?_) h';simp only [spec_l13Mid.l0];rw [if_neg (by omega)];rfl
 ·intro i hi h s h0 h1;have hx:=hba _ (List.getElem_mem hi);have h':=h (s + a[i]) (by omega) (by omega);rw [drop_cons hi,isum,← Int.add_assoc];refine Ev.step (fun k=>?_) h';simp only [spec_l13Mid.l0];rw [if_pos (by omega),if_pos (by omega),rd_nat a i hi,wrap_id (x:=s + a[i]) (by omega) (by omega),wrap_id (by omega) (by omega),cast1]
theorem smid_ev (a l:List Int) (c:Int) (h:EdR a l c):Ev (fun k=>spec_l13Mid.f k a l c) (midV a l):=by
 have la:a.length≤8:=by rcases h.la with e | e <;> omega
 have ll:l.length≤8:=by rcases h.ll with e | e <;> omega
 have ew:wrap64 ((a.length:Int) + (l.length:Int))=((a.length + l.length:Nat):Int):=by rw [wrap_id (by omega) (by omega)];omega
 unfold spec_l13Mid.f midV;rw [ew];by_cases c0:a.length + l.length=0
 ·rw [if_pos c0];exact Ev.congr (f:=fun _=>some 128) (fun k=>by rw [if_pos (by omega)]) (Ev.now _)
 ·rw [if_neg c0];have hn:((a.length + l.length:Nat):Int)=8∨((a.length + l.length:Nat):Int)=16:=by rcases h.la with e | e <;> rcases h.ll with e' | e' <;> omega
  have e2:Int.tdiv ((a.length + l.length:Nat):Int) 2=((a.length + l.length:Nat):Int) / 2:=Int.tdiv_eq_ediv_of_nonneg (by omega);have h':=smid_l0 a l c _ hn la ll h.ba h.bl 0 (by omega) (((a.length + l.length:Nat):Int) / 2) (by omega) (by omega);rw [List.drop_zero] at h';rw [show isum a + isum l + ((a.length + l.length:Nat):Int) / 2=((a.length + l.length:Nat):Int) / 2 + isum a + isum l by omega];refine Ev.congr (fun k=>?_) h';rw [if_neg (by omega),e2,wrap_id (by omega) (by omega)];rfl
theorem filled_eq {l:List Int} (h:l.length=0∨l.length=8) (i:Nat) (hi:i < 8):spec_l13Filled.f l (i:Int)=some (rd (orG l) (i:Int)):=by
 unfold spec_l13Filled.f orG;by_cases c:l.length=0
 ·rw [if_pos (by omega),if_pos c]
  congr 1
  have:∀ j:Fin 8,(128:Int)=rd [128,128,128,128,128,128,128,128] (j.val:Int):=by decide +kernel
  exact this ⟨i,hi⟩
 ·rw [if_neg (by omega),if_neg c,if_pos (by omega),if_pos (by omega)]
theorem sguess_loop (mode:Int) (a l:List Int) (c:Int) (hm:0≤mode∧mode≤3) (h:EdR a l c) :
  ∀ i:Nat,i≤64→Ev (fun k=>spec_GuessOf.l0 k mode ((guessV mode a l c).take i) (cornG c) (i:Int) a l c) (guessV mode a l c):=by
 have hl:=guessV_len mode a l c;have hc:0≤cornG c∧cornG c≤255:=by unfold cornG;have:=h.bc;split <;> omega
 refine down 64 ?_ ?_
 ·refine Ev.step (f:=fun _=>some (guessV mode a l c)) (fun k=>?_) (Ev.now _);simp only [spec_GuessOf.l0];rw [if_neg (by omega),List.take_of_length_le (by omega)]
 ·intro i hi h';have m1:Int.tmod (i:Int) 8=((i % 8:Nat):Int):=by rw [Int.tmod_eq_emod_of_nonneg (by omega)];omega
  have m2:Int.tdiv (i:Int) 8=((i / 8:Nat):Int):=by rw [Int.tdiv_eq_ediv_of_nonneg (by omega)];omega
  have hlen:((guessV mode a l c).take i).length < 17592186044416:=by rw [List.length_take];omega
  have p1:(i:Int) < 64:=by omega
  have hli:i < (guessV mode a l c).length:=by omega
  have q1:i % 8 < 8:=by omega
  have q2:i / 8 < 8:=by omega
  have f1:=filled_eq h.la (i % 8) q1;have f2:=filled_eq h.ll (i / 8) q2;have w3:wrap64 (wrap64 (rd (orG l) ((i / 8:Nat):Int) + rd (orG a) ((i % 8:Nat):Int)) - cornG c)=rd (orG l) ((i / 8:Nat):Int) + rd (orG a) ((i % 8:Nat):Int) - cornG c:=by
   have r1:=orG_rd h.la h.ba (i % 8) q1;have r2:=orG_rd h.ll h.bl (i / 8) q2;generalize rd (orG l) ((i / 8:Nat):Int)=u at r2 ⊢;generalize rd (orG a) ((i % 8:Nat):Int)=v at r1 ⊢;rw [wrap_id (x:=u + v) (by omega) (by omega),wrap_id (by omega) (by omega)]
  have w2:wrap64 ((i / 8:Nat):Int)=((i / 8:Nat):Int):=wrap_id (by omega) (by omega);have w1:wrap64 ((i:Int) + 1)=((i + 1:Nat):Int):=by clear w2 w3;exact wrap_id (by omega) (by omega)
  have e:=guessV_get mode a l c i hli;unfold guessAt at e;by_cases m0:mode=0
  ·rw [if_pos m0] at e;refine Ev.step (f:=fun k=>(spec_l13Mid.f k a l c).bind fun t=>(if ((guessV mode a l c).take i).length < 17592186044416 then (spec_GuessOf.l0 k mode ((guessV mode a l c).take i ++ [t]) (cornG c) ((i + 1:Nat):Int) a l c) else (none))) (fun k=>?_) (Ev.bind (smid_ev a l c h) ?_)
   ·simp only [spec_GuessOf.l0];rw [if_pos p1,m1,m2,w2,f1,Option.bind_some,f2,Option.bind_some,if_pos m0,w1]
   ·refine Ev.congr (fun k=>?_) h';rw [if_pos hlen,← e,← List.take_succ_eq_append_getElem hli]
  ·rw [if_neg m0] at e;by_cases m1':mode=1
   ·rw [if_pos m1'] at e;refine Ev.step (fun k=>?_) h';simp only [spec_GuessOf.l0];rw [if_pos p1,m1,m2,w2,f1,Option.bind_some,f2,Option.bind_some,if_neg m0,if_pos m1',w1,if_pos hlen,← e,← List.take_succ_eq_append_getElem hli]
   ·rw [if_neg m1'] at e;by_cases m2':mode=2
    ·rw [if_pos m2'] at e;refine Ev.step (fun k=>?_) h';simp only [spec_GuessOf.l0];rw [if_pos p1,m1,m2,w2,f1,Option.bind_some,f2,Option.bind_some,if_neg m0,if_neg m1',if_pos m2',w1,if_pos hlen,← e,← List.take_succ_eq_append_getElem hli]
    ·rw [if_neg m2'] at e;have hb:=brought_ev (rd (orG l) ((i / 8:Nat):Int) + rd (orG a) ((i % 8:Nat):Int) - cornG c) 0 255;refine Ev.step (f:=fun k=>(spec_Brought.f k (rd (orG l) ((i / 8:Nat):Int) + rd (orG a) ((i % 8:Nat):Int) - cornG c) 0 255).bind fun t=>(if ((guessV mode a l c).take i).length < 17592186044416 then (spec_GuessOf.l0 k mode ((guessV mode a l c).take i ++ [t]) (cornG c) ((i + 1:Nat):Int) a l c) else (none))) (fun k=>?_) (Ev.bind hb ?_)
     ·simp only [spec_GuessOf.l0];rw [if_pos p1,m1,m2,w2,f1,Option.bind_some,f2,Option.bind_some,if_neg m0,if_neg m1',if_neg m2',w1,w3]
     ·refine Ev.congr (fun k=>?_) h';rw [if_pos hlen,← e,← List.take_succ_eq_append_getElem hli]
theorem sguessof_ev (mode:Int) (a l:List Int) (c:Int) (ha:a.length≤1048576) (hl:l.length≤1048576):Ev (fun k=>spec_GuessOf.f k mode a l c) (guessR mode a l c):=by
 unfold spec_GuessOf.f guessR;simp only [Option.bind_some,in_eq];have hbad:Ev (fun k=>spec_GuessOf.j0 k mode [] true a l c) []:=Ev.step (f:=fun _=>some []) (fun k=>by simp only [spec_GuessOf.j0];rfl) (Ev.now _);refine Ev.bind (sedges_ev a l c (by omega) (by omega)) ?_;by_cases he:edgesB a l c=true
 ·have h:=edgesB_right he;by_cases hm:0≤mode∧mode≤3
  ·rw [if_pos ⟨he,hm⟩];simp only [he,hm,and_self,decide_true,if_true,Bool.not_true];have h0:=sguess_loop mode a l c hm h 0 (by omega);have h1:Ev (fun k=>spec_GuessOf.j1 k mode [] (cornG c) a l c) (guessV mode a l c):=Ev.step (fun k=>by simp only [spec_GuessOf.j1] <;> rfl) h0;refine Ev.step (fun k=>?_) h1;simp only [spec_GuessOf.j0,Bool.false_eq_true,if_false];unfold cornG;by_cases c0:c < 0
   ·rw [if_pos c0,if_pos c0]
   ·rw [if_neg c0,if_neg c0]
  ·rw [if_neg (fun h=>hm h.2)];simp only [he,hm,decide_false,if_true,Bool.not_false];exact hbad
 ·rw [if_neg (fun h=>he h.1)];simp only [he,if_false];exact hbad
theorem guessR_len (mode:Int) (a l:List Int) (c:Int):(guessR mode a l c).length≤64:=by
 unfold guessR
 split
 ·rw [guessV_len];omega
 ·simp
def aboveV (w h:Int) (d:ByteArray) (x y:Int):List Int:=if y > 0 then (List.range 8).map (fun i:Nat=>dotv w h d (x + (i:Int)) (y - 1)) else []
def leftV (w h:Int) (d:ByteArray) (x y:Int):List Int:=if x > 0 then (List.range 8).map (fun i:Nat=>dotv w h d (x - 1) (y + (i:Int))) else []
def cornV (w h:Int) (d:ByteArray) (x y:Int):Int:=if x > 0 then (if y > 0 then dotv w h d (x - 1) (y - 1) else -1) else -1
theorem above_yes {w h:Int} {d:ByteArray} {x y:Int} (hy:y > 0):(aboveV w h d x y).length=8∧∀ (i:Nat) (hi:i < (aboveV w h d x y).length),(aboveV w h d x y)[i]=dotv w h d (x + (i:Int)) (y - 1):=by
 have e:aboveV w h d x y=(List.range 8).map (fun i:Nat=>dotv w h d (x + (i:Int)) (y - 1)):=if_pos hy;rw [e];exact ⟨by simp,fun i hi=>by simp⟩
theorem left_yes {w h:Int} {d:ByteArray} {x y:Int} (hx:x > 0):(leftV w h d x y).length=8∧∀ (i:Nat) (hi:i < (leftV w h d x y).length),(leftV w h d x y)[i]=dotv w h d (x - 1) (y + (i:Int)):=by
 have e:leftV w h d x y=(List.range 8).map (fun i:Nat=>dotv w h d (x - 1) (y + (i:Int))):=if_pos hx;rw [e];exact ⟨by simp,fun i hi=>by simp⟩
theorem above_no {w h:Int} {d:ByteArray} {x y:Int} (hy:¬ y > 0):aboveV w h d x y=[]:=if_neg hy
theorem left_no {w h:Int} {d:ByteArray} {x y:Int} (hx:¬ x > 0):leftV w h d x y=[]:=if_neg hx
theorem above_in (w h:Int) (d:ByteArray) (x y:Int):∀ v ∈ aboveV w h d x y,0≤v∧v≤255:=by
 intro v hv;by_cases hy:y > 0
 ·obtain ⟨i,hi,rfl⟩:=List.mem_iff_getElem.1 hv;rw [(above_yes hy).2];exact dotv_range ..
 ·rw [above_no hy] at hv;simp at hv
theorem left_in (w h:Int) (d:ByteArray) (x y:Int):∀ v ∈ leftV w h d x y,0≤v∧v≤255:=by
 intro v hv;by_cases hx:x > 0
 ·obtain ⟨i,hi,rfl⟩:=List.mem_iff_getElem.1 hv;rw [(left_yes hx).2];exact dotv_range ..
 ·rw [left_no hx] at hv;simp at hv
theorem corn_in (w h:Int) (d:ByteArray) (x y:Int):-1≤cornV w h d x y∧cornV w h d x y≤255:=by
 unfold cornV;have:=dotv_range w h d (x - 1) (y - 1)
 repeat' split <;> omega
theorem above_len (w h:Int) (d:ByteArray) (x y:Int):(aboveV w h d x y).length=8∨(aboveV w h d x y).length=0:=by
 by_cases hy:y > 0
 ·exact .inl (above_yes hy).1
 ·rw [above_no hy];exact .inr rfl
theorem left_len (w h:Int) (d:ByteArray) (x y:Int):(leftV w h d x y).length=8∨(leftV w h d x y).length=0:=by
 by_cases hx:x > 0
 ·exact .inl (left_yes hx).1
 ·rw [left_no hx];exact .inr rfl
def SqAt (w h x y:Int):Prop:=x % 8=0∧y % 8=0∧(0≤x∧x≤w - 8)∧(0≤y∧y≤h - 8)
instance (w h x y:Int):Decidable (SqAt w h x y):=by unfold SqAt;infer_instance
theorem tmod8 {x:Int}:(Int.tmod x 8=0)↔x % 8=0:=by
 have h1:=Int.dvd_iff_tmod_eq_zero (a:=8) (b:=x);have h2:=Int.dvd_iff_emod_eq_zero (a:=8) (b:=x);rw [← h1,← h2]
def edgesV (w h:Int) (d:ByteArray) (x y:Int):List Int × List Int × Int × Bool :=
 if PicR w h d∧SqAt w h x y then (aboveV w h d x y,leftV w h d x y,cornV w h d x y,true) else ([],[],0,false)
theorem edgesV_len (w h:Int) (d:ByteArray) (x y:Int):(edgesV w h d x y).1.length≤8∧(edgesV w h d x y).2.1.length≤8:=by
 unfold edgesV;have a:=above_len w h d x y;have b:=left_len w h d x y
 split
 ·exact ⟨by simp only [];omega,by simp only [];omega⟩
 ·simp
theorem issq_eq (w h:Int) (d:ByteArray) (x y:Int) (hp:PicR w h d):impl_Pic_isSquare.f w h d x y=some (decide (SqAt w h x y)):=by
 obtain ⟨hw,hh,_⟩:=hp;unfold impl_Pic_isSquare.f SqAt;simp only [tmod8,within_eq,Option.bind_some];rw [wrap_id (x:=w - 8) (by omega) (by omega),wrap_id (x:=h - 8) (by omega) (by omega)];by_cases c1:x % 8=0
 ·by_cases c2:y % 8=0
  ·by_cases c3:0≤x∧x≤w - 8
   ·simp only [c1,c2,c3,and_self,if_true,decide_true,true_and]
   ·simp only [c1,c2,c3,if_true,decide_false,Bool.false_eq_true,if_false,false_and,and_false]
  ·simp only [c1,c2,if_true,if_false,false_and,and_false,decide_false]
 ·simp only [c1,if_false,false_and,decide_false]
theorem fits_eq (w h:Int) (d:ByteArray) (x y:Int):spec_l13Fits.f w h d x y=some (decide (PicR w h d∧SqAt w h x y)):=by
 unfold spec_l13Fits.f spec_l12Within.f SqAt;simp only [tmod8,in_eq,pic_some,Option.bind_some];by_cases c1:x % 8=0
 ·by_cases c2:y % 8=0
  ·by_cases c3:PicR w h d
   ·obtain ⟨hw,hh,_⟩:=id c3;rw [wrap_id (x:=w - 8) (by omega) (by omega),wrap_id (x:=h - 8) (by omega) (by omega)];by_cases c4:0≤x∧x≤w - 8 <;> by_cases c5:0≤y∧y≤h - 8 <;> by_cases d1:(1:Int)≤8∧8≤w <;> by_cases d2:(1:Int)≤8∧8≤h <;>
     simp only [c1,c2,c3,c4,c5,d1,d2,and_self,if_true,decide_true,decide_false,Bool.false_eq_true,if_false,Option.bind_some,true_and,and_true,and_false,false_and]
    all_goals (first | rfl|(exfalso;omega)|(simp;done))
   ·simp only [c1,c2,c3,if_true,false_and,decide_false,Bool.false_eq_true,if_false,Option.bind_some]
  ·simp only [c1,c2,if_true,if_false,false_and,and_false,decide_false]
 ·simp only [c1,if_false,false_and,and_false,decide_false]
theorem edges_loop (w h:Int) (d:ByteArray) (x y:Int) (hp:PicR w h d) (hs:SqAt w h x y) :
  ∀ i:Nat,i≤8→Ev (fun k=>impl_EdgesOf.l0 k x y (i:Int) w h d ((aboveV w h d x y).take i) ((leftV w h d x y).take i) (-1)) (aboveV w h d x y,leftV w h d x y,cornV w h d x y,true):=by
 have ha:=above_len w h d x y;have hl:=left_len w h d x y;obtain ⟨hw,hh,hd⟩:=id hp;obtain ⟨_,_,hx,hy⟩:=id hs;have hD:∀ u v:Int,Ev (fun k=>impl_Pic_dot.f w h d u v) (dotv w h d u v):=fun u v=>by rw [dot_eq w h d u v hp];exact Ev.now _
 have hap:∀ i:Nat,i < 8→y > 0→(aboveV w h d x y).take i ++ [dotv w h d (x + (i:Int)) (y - 1)]=(aboveV w h d x y).take (i + 1):=fun i hi c=>by
  rw [← (above_yes (w:=w) (h:=h) (d:=d) (x:=x) c).2 i (by rw [(above_yes c).1];exact hi)];exact (List.take_succ_eq_append_getElem _).symm
 have hlp:∀ i:Nat,i < 8→x > 0→(leftV w h d x y).take i ++ [dotv w h d (x - 1) (y + (i:Int))]=(leftV w h d x y).take (i + 1):=fun i hi c=>by
  rw [← (left_yes (w:=w) (h:=h) (d:=d) (y:=y) c).2 i (by rw [(left_yes c).1];exact hi)];exact (List.take_succ_eq_append_getElem _).symm
 refine down 8 ?_ ?_
 ·rw [List.take_of_length_le (by omega),List.take_of_length_le (by omega)];unfold cornV;by_cases cx:x > 0
  ·by_cases cy:y > 0
   ·refine Ev.step (f:=fun k=>(impl_Pic_dot.f w h d (x - 1) (y - 1)).bind fun t=>some (aboveV w h d x y,leftV w h d x y,t,true)) (fun k=>?_) (Ev.bind (hD _ _) ?_)
    ·simp only [impl_EdgesOf.l0];rw [if_neg (by omega),if_pos cx,if_pos cy,wrap_id (x:=x - 1) (by omega) (by omega),wrap_id (x:=y - 1) (by omega) (by omega)]
    ·rw [if_pos cx,if_pos cy];exact Ev.now _
   ·rw [if_pos cx,if_neg cy];exact Ev.step (f:=fun _=>some _) (fun k=>by simp only [impl_EdgesOf.l0];rw [if_neg (by omega),if_pos cx,if_neg cy]) (Ev.now _)
  ·rw [if_neg cx];exact Ev.step (f:=fun _=>some _) (fun k=>by simp only [impl_EdgesOf.l0];rw [if_neg (by omega),if_neg cx]) (Ev.now _)
 ·intro i hi h';have w1:wrap64 ((i:Int) + 1)=((i + 1:Nat):Int):=wrap_id (by omega) (by omega);have l1:((aboveV w h d x y).take i).length < 17592186044416:=by simp;omega
  have l2:((leftV w h d x y).take i).length < 17592186044416:=by simp;omega
  by_cases cy:y > 0
  ·have e1:=hap i hi cy;by_cases cx:x > 0
   ·have e2:=hlp i hi cx;refine Ev.step (f:=fun k=>(impl_Pic_dot.f w h d (x + (i:Int)) (y - 1)).bind fun t=>(if ((aboveV w h d x y).take i).length < 17592186044416 then ((some ((aboveV w h d x y).take i ++ [t]:List Int)).bind fun y123=>((impl_Pic_dot.f w h d (x - 1) (y + (i:Int))).bind fun t126=>(if ((leftV w h d x y).take i).length < 17592186044416 then (impl_EdgesOf.l0 k x y ((i + 1:Nat):Int) w h d y123 ((leftV w h d x y).take i ++ [t126]) (-1)) else (none)))) else (none))) (fun k=>?_) (Ev.bind (hD _ _) ?_)
    ·simp only [impl_EdgesOf.l0];rw [if_pos (by omega),if_pos cy,wrap_id (x:=x + (i:Int)) (by omega) (by omega),wrap_id (x:=y - 1) (by omega) (by omega),wrap_id (x:=x - 1) (by omega) (by omega),wrap_id (x:=y + (i:Int)) (by omega) (by omega),w1];simp only [cx,if_true]
    ·simp only [l1,l2,if_true,Option.bind_some];refine Ev.bind (hD _ _) ?_;rw [e1,e2];exact h'
   ·rw [left_no cx] at h' l2 ⊢;refine Ev.step (f:=fun k=>(impl_Pic_dot.f w h d (x + (i:Int)) (y - 1)).bind fun t=>(if ((aboveV w h d x y).take i).length < 17592186044416 then (impl_EdgesOf.l0 k x y ((i + 1:Nat):Int) w h d ((aboveV w h d x y).take i ++ [t]) ([].take i) (-1)) else (none))) (fun k=>?_) (Ev.bind (hD _ _) ?_)
    ·simp only [impl_EdgesOf.l0];rw [if_pos (by omega),if_pos cy,wrap_id (x:=x + (i:Int)) (by omega) (by omega),wrap_id (x:=y - 1) (by omega) (by omega),w1];simp only [cx,if_false,Option.bind_some]
    ·simp only [l1,if_true];rw [e1];rw [List.take_nil] at h' ⊢;exact h'
  ·rw [above_no cy] at h' l1 ⊢;by_cases cx:x > 0
   ·have e2:=hlp i hi cx;refine Ev.step (f:=fun k=>(impl_Pic_dot.f w h d (x - 1) (y + (i:Int))).bind fun t=>(if ((leftV w h d x y).take i).length < 17592186044416 then (impl_EdgesOf.l0 k x y ((i + 1:Nat):Int) w h d ([].take i) ((leftV w h d x y).take i ++ [t]) (-1)) else (none))) (fun k=>?_) (Ev.bind (hD _ _) ?_)
    ·simp only [impl_EdgesOf.l0];rw [if_pos (by omega),if_neg cy,wrap_id (x:=x - 1) (by omega) (by omega),wrap_id (x:=y + (i:Int)) (by omega) (by omega),w1];simp only [cx,if_true]
    ·simp only [l2,if_true];rw [e2];rw [List.take_nil] at h' ⊢;exact h'
   ·rw [left_no cx] at h' ⊢;rw [List.take_nil] at h' ⊢;refine Ev.step (fun k=>?_) h';simp only [impl_EdgesOf.l0];rw [if_pos (by omega),if_neg cy,if_neg cx,w1]
theorem sedges_loop (w h:Int) (d:ByteArray) (x y:Int) (hp:PicR w h d) (hs:SqAt w h x y) :
  ∀ i:Nat,i≤8→Ev (fun k=>spec_EdgesOf.l0 k x y (i:Int) w h d ((aboveV w h d x y).take i) ((leftV w h d x y).take i) (-1)) (aboveV w h d x y,leftV w h d x y,cornV w h d x y,true):=by
 have ha:=above_len w h d x y;have hl:=left_len w h d x y;obtain ⟨hw,hh,hd⟩:=id hp;obtain ⟨_,_,hx,hy⟩:=id hs;have hD:∀ u v:Int,Ev (fun k=>spec_DotAt.f k w h d u v) (dotv w h d u v):=fun u v=>by have:=sdot_ev w h d u v;rwa [if_pos hp] at this
 have hap:∀ i:Nat,i < 8→y > 0→(aboveV w h d x y).take i ++ [dotv w h d (x + (i:Int)) (y - 1)]=(aboveV w h d x y).take (i + 1):=fun i hi c=>by
  rw [← (above_yes (w:=w) (h:=h) (d:=d) (x:=x) c).2 i (by rw [(above_yes c).1];exact hi)];exact (List.take_succ_eq_append_getElem _).symm
 have hlp:∀ i:Nat,i < 8→x > 0→(leftV w h d x y).take i ++ [dotv w h d (x - 1) (y + (i:Int))]=(leftV w h d x y).take (i + 1):=fun i hi c=>by
  rw [← (left_yes (w:=w) (h:=h) (d:=d) (y:=y) c).2 i (by rw [(left_yes c).1];exact hi)];exact (List.take_succ_eq_append_getElem _).symm
 refine down 8 ?_ ?_
 ·rw [List.take_of_length_le (by omega),List.take_of_length_le (by omega)];unfold cornV;by_cases cx:x > 0
  ·by_cases cy:y > 0
   ·refine Ev.step (f:=fun k=>(spec_DotAt.f k w h d (x - 1) (y - 1)).bind fun t=>some (aboveV w h d x y,leftV w h d x y,t,true)) (fun k=>?_) (Ev.bind (hD _ _) ?_)
    ·simp only [spec_EdgesOf.l0];rw [if_neg (by omega),if_pos cx,if_pos cy,wrap_id (x:=x - 1) (by omega) (by omega),wrap_id (x:=y - 1) (by omega) (by omega)]
    ·rw [if_pos cx,if_pos cy];exact Ev.now _
   ·rw [if_pos cx,if_neg cy];exact Ev.step (f:=fun _=>some _) (fun k=>by simp only [spec_EdgesOf.l0];rw [if_neg (by omega),if_pos cx,if_neg cy]) (Ev.now _)
  ·rw [if_neg cx];exact Ev.step (f:=fun _=>some _) (fun k=>by simp only [spec_EdgesOf.l0];rw [if_neg (by omega),if_neg cx]) (Ev.now _)
 ·intro i hi h';have w1:wrap64 ((i:Int) + 1)=((i + 1:Nat):Int):=wrap_id (by omega) (by omega);have l1:((aboveV w h d x y).take i).length < 17592186044416:=by simp;omega
  have l2:((leftV w h d x y).take i).length < 17592186044416:=by simp;omega
  by_cases cy:y > 0
  ·have e1:=hap i hi cy;by_cases cx:x > 0
   ·have e2:=hlp i hi cx;refine Ev.step (f:=fun k=>(spec_DotAt.f k w h d (x + (i:Int)) (y - 1)).bind fun t=>(if ((aboveV w h d x y).take i).length < 17592186044416 then ((some ((aboveV w h d x y).take i ++ [t]:List Int)).bind fun y123=>((spec_DotAt.f k w h d (x - 1) (y + (i:Int))).bind fun t126=>(if ((leftV w h d x y).take i).length < 17592186044416 then (spec_EdgesOf.l0 k x y ((i + 1:Nat):Int) w h d y123 ((leftV w h d x y).take i ++ [t126]) (-1)) else (none)))) else (none))) (fun k=>?_) (Ev.bind (hD _ _) ?_)
    ·simp only [spec_EdgesOf.l0];rw [if_pos (by omega),if_pos cy,wrap_id (x:=x + (i:Int)) (by omega) (by omega),wrap_id (x:=y - 1) (by omega) (by omega),wrap_id (x:=x - 1) (by omega) (by omega),wrap_id (x:=y + (i:Int)) (by omega) (by omega),w1];simp only [cx,if_true]
    ·simp only [l1,l2,if_true,Option.bind_some];refine Ev.bind (hD _ _) ?_;rw [e1,e2];exact h'
   ·rw [left_no cx] at h' l2 ⊢;refine Ev.step (f:=fun k=>(spec_DotAt.f k w h d (x + (i:Int)) (y - 1)).bind fun t=>(if ((aboveV w h d x y).take i).length < 17592186044416 then (spec_EdgesOf.l0 k x y ((i + 1:Nat):Int) w h d ((aboveV w h d x y).take i ++ [t]) ([].take i) (-1)) else (none))) (fun k=>?_) (Ev.bind (hD _ _) ?_)
    ·simp only [spec_EdgesOf.l0];rw [if_pos (by omega),if_pos cy,wrap_id (x:=x + (i:Int)) (by omega) (by omega),wrap_id (x:=y - 1) (by omega) (by omega),w1];simp only [cx,if_false,Option.bind_some]
    ·simp only [l1,if_true];rw [e1];rw [List.take_nil] at h' ⊢;exact h'
  ·rw [above_no cy] at h' l1 ⊢;by_cases cx:x > 0
   ·have e2:=hlp i hi cx;refine Ev.step (f:=fun k=>(spec_DotAt.f k w h d (x - 1) (y + (i:Int))).bind fun t=>(if ((leftV w h d x y).take i).length < 17592186044416 then (spec_EdgesOf.l0 k x y ((i + 1:Nat):Int) w h d ([].take i) ((leftV w h d x y).take i ++ [t]) (-1)) else (none))) (fun k=>?_) (Ev.bind (hD _ _) ?_)
    ·simp only [spec_EdgesOf.l0];rw [if_pos (by omega),if_neg cy,wrap_id (x:=x - 1) (by omega) (by omega),wrap_id (x:=y + (i:Int)) (by omega) (by omega),w1];simp only [cx,if_true]
    ·simp only [l2,if_true];rw [e2];rw [List.take_nil] at h' ⊢;exact h'
   ·rw [left_no cx] at h' ⊢;rw [List.take_nil] at h' ⊢;refine Ev.step (fun k=>?_) h';simp only [spec_EdgesOf.l0];rw [if_pos (by omega),if_neg cy,if_neg cx,w1]
theorem edgesof_ev (w h:Int) (d:ByteArray) (x y:Int):Ev (fun k=>impl_EdgesOf.f k w h d x y) (edgesV w h d x y):=by
 unfold impl_EdgesOf.f edgesV;simp only [ipic_some,Option.bind_some];have hbad:Ev (fun k=>impl_EdgesOf.j0 k x y true w h d) ([],[],0,false):=Ev.step (f:=fun _=>some _) (fun k=>by simp only [impl_EdgesOf.j0];rfl) (Ev.now _);by_cases c1:PicR w h d
 ·simp only [c1,decide_true,if_true,issq_eq w h d x y c1,Option.bind_some,true_and];by_cases c2:SqAt w h x y
  ·rw [if_pos c2];simp only [c2,decide_true,Bool.not_true];refine Ev.step (fun k=>by simp only [impl_EdgesOf.j0,Bool.false_eq_true,if_false] <;> rfl) ?_;exact edges_loop w h d x y c1 c2 0 (by omega)
  ·rw [if_neg c2];simp only [c2,decide_false,Bool.not_false];exact hbad
 ·simp only [c1,decide_false,Bool.false_eq_true,if_false,false_and];exact hbad
theorem sedgesof_ev (w h:Int) (d:ByteArray) (x y:Int):Ev (fun k=>spec_EdgesOf.f k w h d x y) (edgesV w h d x y):=by
 unfold spec_EdgesOf.f edgesV;simp only [fits_eq,Option.bind_some];by_cases c:PicR w h d∧SqAt w h x y
 ·rw [if_pos c];simp only [c,and_self,decide_true,if_true];exact sedges_loop w h d x y c.1 c.2 0 (by omega)
 ·rw [if_neg c];simp only [c,decide_false,Bool.false_eq_true,if_false];exact Ev.now _
/-- The 64 dots of a block. -/
def blockv (w h:Int) (d:ByteArray) (x y:Int):List Int:=(List.range 64).map fun i=>dotv w h d (x + ((i % 8:Nat):Int)) (y + ((i / 8:Nat):Int))
theorem blockv_len (w h:Int) (d:ByteArray) (x y:Int):(blockv w h d x y).length=64:=by simp [blockv]
theorem blockv_get (w h:Int) (d:ByteArray) (x y:Int) (i:Nat) (hi:i < (blockv w h d x y).length):(blockv w h d x y)[i]=dotv w h d (x + ((i % 8:Nat):Int)) (y + ((i / 8:Nat):Int)):=by simp [blockv]
theorem blockv_in (w h:Int) (d:ByteArray) (x y:Int):∀ v ∈ blockv w h d x y,0≤v∧v≤255:=by
 intro v hv;obtain ⟨i,hi,rfl⟩:=List.mem_iff_getElem.1 hv;rw [blockv_get];exact dotv_range ..
theorem block_inner (w h:Int) (d:ByteArray) (x y:Int) (hp:PicR w h d) (hx:-1000000≤x∧x≤1000000) (hy:-1000000≤y∧y≤1000000) (r:Nat) (hr:r < 8) (R:List Int)
  (hh:Ev (fun k=>impl_Pic_block.l0 k x y ((blockv w h d x y).take (8 * (r + 1))) ((r + 1:Nat):Int) w h d) R) :
  ∀ c:Nat,c≤8→Ev (fun k=>impl_Pic_block.l1 k x y ((blockv w h d x y).take (8 * r + c)) (r:Int) (r:Int) (c:Int) w h d) R:=by
 have hl:=blockv_len w h d x y;refine down 8 ?_ ?_
 ·refine Ev.step (fun k=>?_) hh;simp only [impl_Pic_block.l1];rw [if_neg (by omega),wrap_id (by omega) (by omega),cast1];rfl
 ·intro c hc h';refine Ev.step (fun k=>?_) h';have e:=blockv_get w h d x y (8 * r + c) (by omega);have m1:(8 * r + c) % 8=c:=by omega
  have m2:(8 * r + c) / 8=r:=by omega
  rw [m1,m2] at e;simp only [impl_Pic_block.l1];rw [if_pos (by omega),wrap_id (x:=x + (c:Int)) (by omega) (by omega),wrap_id (x:=y + (r:Int)) (by omega) (by omega),dot_eq w h d _ _ hp,Option.bind_some,if_pos (by simp;omega),← e,← List.take_succ_eq_append_getElem (by omega),wrap_id (by omega) (by omega),cast1];rfl
theorem block_ev (w h:Int) (d:ByteArray) (x y:Int) (hp:PicR w h d) (hx:-1000000≤x∧x≤1000000) (hy:-1000000≤y∧y≤1000000):Ev (fun k=>impl_Pic_block.f k w h d x y) (blockv w h d x y):=by
 have hl:=blockv_len w h d x y;have H:∀ r:Nat,r≤8→Ev (fun k=>impl_Pic_block.l0 k x y ((blockv w h d x y).take (8 * r)) (r:Int) w h d) (blockv w h d x y):=by
  refine down 8 ?_ ?_
  ·refine Ev.step (f:=fun _=>some (blockv w h d x y)) (fun k=>?_) (Ev.now _);simp only [impl_Pic_block.l0];rw [if_neg (by omega),List.take_of_length_le (by omega)]
  ·intro r hr h';refine Ev.step (fun k=>?_) (block_inner w h d x y hp hx hy r hr _ h' 0 (by omega));simp only [impl_Pic_block.l0];rw [if_pos (by omega)];rfl
 have h0:=H 0 (by omega);unfold impl_Pic_block.f;refine Ev.congr (fun k=>?_) h0;rw [if_pos (by decide)];rfl
def BlOk (w h:Int) (d:ByteArray) (x y:Int):Prop:=PicR w h d∧(-1000≤x∧x≤1000)∧(-1000≤y∧y≤1000)
instance (w h:Int) (d:ByteArray) (x y:Int):Decidable (BlOk w h d x y):=by unfold BlOk;infer_instance
theorem sblock_loop (w h:Int) (d:ByteArray) (x y:Int) (hp:PicR w h d) (hx:-1000000≤x∧x≤1000000) (hy:-1000000≤y∧y≤1000000) :
  ∀ i:Nat,i≤64→Ev (fun k=>spec_BlockOf.l0 k x y ((blockv w h d x y).take i) (i:Int) w h d) (blockv w h d x y):=by
 have hl:=blockv_len w h d x y;refine down 64 ?_ ?_
 ·refine Ev.step (f:=fun _=>some (blockv w h d x y)) (fun k=>?_) (Ev.now _);simp only [spec_BlockOf.l0];rw [if_neg (by omega),List.take_of_length_le (by omega)]
 ·intro i hi h';have e:=blockv_get w h d x y i (by omega);have m1:Int.tmod (i:Int) 8=((i % 8:Nat):Int):=by rw [Int.tmod_eq_emod_of_nonneg (by omega)];omega
  have m2:Int.tdiv (i:Int) 8=((i / 8:Nat):Int):=by rw [Int.tdiv_eq_ediv_of_nonneg (by omega)];omega
  have hs:=sdot_ev w h d (x + ((i % 8:Nat):Int)) (y + ((i / 8:Nat):Int));rw [if_pos hp,← e] at hs;refine Ev.step (f:=fun k=>(spec_DotAt.f k w h d (x + ((i % 8:Nat):Int)) (y + ((i / 8:Nat):Int))).bind fun t=>(if ((blockv w h d x y).take i).length < 17592186044416 then (spec_BlockOf.l0 k x y ((blockv w h d x y).take i ++ [t]) ((i + 1:Nat):Int) w h d) else (none))) (fun k=>?_) (Ev.bind hs ?_)
  ·simp only [spec_BlockOf.l0];rw [if_pos (by omega),m1,m2,wrap_id (x:=((i / 8:Nat):Int)) (by omega) (by omega),wrap_id (x:=x + ((i % 8:Nat):Int)) (by omega) (by omega),wrap_id (x:=y + ((i / 8:Nat):Int)) (by omega) (by omega),wrap_id (x:=(i:Int) + 1) (by omega) (by omega),cast1]
  ·refine Ev.congr (fun k=>?_) h';rw [if_pos (by simp;omega),← List.take_succ_eq_append_getElem (by omega)]
theorem sblockof_ev (w h:Int) (d:ByteArray) (x y:Int):Ev (fun k=>spec_BlockOf.f k w h d x y) (if BlOk w h d x y then blockv w h d x y else []):=by
 unfold spec_BlockOf.f;simp only [pic_some,in_eq,Option.bind_some];have hbad:Ev (fun k=>spec_BlockOf.j0 k x y [] true w h d) []:=Ev.step (f:=fun _=>some []) (fun k=>by simp only [spec_BlockOf.j0];rfl) (Ev.now _);by_cases c1:PicR w h d
 ·by_cases c2:-1000≤x∧x≤1000
  ·by_cases c3:-1000≤y∧y≤1000
   ·rw [if_pos ⟨c1,c2,c3⟩];simp only [c1,c2,c3,and_self,decide_true,if_true,Bool.not_true];exact Ev.step (fun k=>by simp only [spec_BlockOf.j0,Bool.false_eq_true,if_false];rfl) (sblock_loop w h d x y c1 (by omega) (by omega) 0 (by omega))
   ·rw [if_neg (fun h=>c3 h.2.2)];simp only [c1,c2,c3,and_self,decide_true,decide_false,if_true,Bool.not_false];exact hbad
  ·rw [if_neg (fun h=>c2 h.2.1)];simp only [c1,c2,decide_true,decide_false,if_true,Bool.false_eq_true,if_false];exact hbad
 ·rw [if_neg (fun h=>c1 h.1)];simp only [c1,decide_false,Bool.false_eq_true,if_false];exact hbad
theorem len_decs (l:List Int) (n:Nat) (m:Int) (h:m=(n:Int)):decide ((l.length:Int)=m)=decide (l.length=n):=by rw [decide_eq_decide];omega
def levB (l:List Int):Bool:=decide (l.length=64) && allB (-5000) 5000 l
/-- What a right square is. -/
def sqB (kd mode dx dy:Int) (l:List Int):Bool :=
 if kd=0 then decide (mode=0) && (decide (dx=0) && (decide (dy=0) && decide (l.length=0)))
 else if kd=1 then decide (mode=0) && (decide (-16≤dx∧dx≤16) && (decide (-16≤dy∧dy≤16) && levB l))
 else if kd=2 then decide (0≤mode∧mode≤3) && (decide (dx=0) && (decide (dy=0) && levB l))
 else false
theorem levels_ev (l:List Int) (hl:l.length≤17592186043904):Ev (fun k=>impl_areLevels.f k l) (levB l):=by
 unfold impl_areLevels.f levB;have h:=areIn_ev l 64 (-5000) 5000 hl;rw [len_decs l 64 64 rfl] at h;exact Ev.bind h (Ev.now _)
theorem slevels_ev (l:List Int) (hl:l.length≤17592186043904):Ev (fun k=>spec_l09All.f k l 64 5000) (levB l):=by
 unfold levB;have h:=all_ev l 64 5000 hl (by omega) (by omega)
 rwa [len_decs l 64 64 rfl] at h
theorem len0 (l:List Int):((l.length:Int) == 0)=decide (l.length=0):=by
 rw [Bool.eq_iff_iff,beq_iff_eq,decide_eq_true_eq];omega
theorem sqok_ev (kd mode dx dy:Int) (l:List Int) (hl:l.length≤17592186043904):Ev (fun k=>impl_SquareOk.f k kd mode dx dy l) (sqB kd mode dx dy l):=by
 have hL:=levels_ev l hl;unfold impl_SquareOk.f sqB;simp only [within_eq,Option.bind_some,len0];by_cases k0:kd=0
 ·simp only [if_pos k0];by_cases a:mode=0 <;> by_cases b:dx=0 <;> by_cases c:dy=0 <;> simp only [a,b,c,if_true,if_false,decide_true,decide_false,Bool.true_and,Bool.false_and] <;> exact Ev.now _
 ·by_cases k1:kd=1
  ·simp only [if_neg k0,if_pos k1];by_cases a:mode=0
   ·by_cases b:-16≤dx∧dx≤16
    ·by_cases c:-16≤dy∧dy≤16
     ·simp only [a,b,c,and_self,if_true,decide_true,Bool.true_and];exact Ev.bind hL (Ev.now _)
     ·simp only [a,b,c,and_self,if_true,decide_true,decide_false,Bool.true_and,Bool.false_and,Bool.false_eq_true,if_false];exact Ev.now _
    ·simp only [a,b,if_true,decide_true,decide_false,Bool.true_and,Bool.false_and,Bool.false_eq_true,if_false];exact Ev.now _
   ·simp only [a,decide_false,Bool.false_and,if_false];exact Ev.now _
  ·by_cases k2:kd=2
   ·simp only [if_neg k0,if_neg k1,if_pos k2];by_cases a:0≤mode∧mode≤3
    ·by_cases b:dx=0
     ·by_cases c:dy=0
      ·simp only [a,b,c,and_self,if_true,decide_true,Bool.true_and];exact Ev.bind hL (Ev.now _)
      ·simp only [a,b,c,and_self,if_true,decide_true,decide_false,Bool.true_and,Bool.false_and,Bool.false_eq_true,if_false];exact Ev.now _
     ·simp only [a,b,and_self,if_true,decide_true,decide_false,Bool.true_and,Bool.false_and,Bool.false_eq_true,if_false];exact Ev.now _
    ·simp only [a,decide_false,Bool.false_and,Bool.false_eq_true,if_false];exact Ev.now _
   ·simp only [if_neg k0,if_neg k1,if_neg k2];exact Ev.now _
theorem ssqok_ev (kd mode dx dy:Int) (l:List Int) (hl:l.length≤17592186043904):Ev (fun k=>spec_SquareOk.f k kd mode dx dy l) (sqB kd mode dx dy l):=by
 have hL:=slevels_ev l hl;unfold spec_SquareOk.f sqB;simp only [in_eq,Option.bind_some,len0];by_cases k0:kd=0
 ·simp only [if_pos k0];by_cases a:mode=0 <;> by_cases b:dx=0 <;> by_cases c:dy=0 <;> simp only [a,b,c,if_true,if_false,decide_true,decide_false,Bool.true_and,Bool.false_and] <;> exact Ev.now _
 ·by_cases k1:kd=1
  ·simp only [if_neg k0,if_pos k1];by_cases a:mode=0
   ·by_cases b:-16≤dx∧dx≤16
    ·by_cases c:-16≤dy∧dy≤16
     ·simp only [a,b,c,and_self,if_true,decide_true,Bool.true_and];exact Ev.bind hL (Ev.now _)
     ·simp only [a,b,c,and_self,if_true,decide_true,decide_false,Bool.true_and,Bool.false_and,Bool.false_eq_true,if_false];exact Ev.now _
    ·simp only [a,b,if_true,decide_true,decide_false,Bool.true_and,Bool.false_and,Bool.false_eq_true,if_false];exact Ev.now _
   ·simp only [a,decide_false,Bool.false_and,if_false];exact Ev.now _
  ·by_cases k2:kd=2
   ·simp only [if_neg k0,if_neg k1,if_pos k2];by_cases a:0≤mode∧mode≤3
    ·by_cases b:dx=0
     ·by_cases c:dy=0
      ·simp only [a,b,c,and_self,if_true,decide_true,Bool.true_and];exact Ev.bind hL (Ev.now _)
      ·simp only [a,b,c,and_self,if_true,decide_true,decide_false,Bool.true_and,Bool.false_and,Bool.false_eq_true,if_false];exact Ev.now _
     ·simp only [a,b,and_self,if_true,decide_true,decide_false,Bool.true_and,Bool.false_and,Bool.false_eq_true,if_false];exact Ev.now _
    ·simp only [a,decide_false,Bool.false_and,Bool.false_eq_true,if_false];exact Ev.now _
   ·simp only [if_neg k0,if_neg k1,if_neg k2];exact Ev.now _
def jv (g d:List Int):List Int:=if JOk g d then joinv g d else []
/-- The dots of a square whose arguments are right. -/
def sdG (W H:Int) (D:ByteArray) (w h:Int) (d:ByteArray) (left top:Int) (q:Int) (large ex:Bool) (x y kd mode dx dy:Int) (l:List Int):List Int :=
 if kd=0 then blockv w h d (left + x) (top + y)
 else if kd=1 then jv (blockv w h d (left + x + dx) (top + y + dy)) (lbN l q large ex).1
 else jv (guessR mode (edgesV W H D x y).1 (edgesV W H D x y).2.1 (edgesV W H D x y).2.2.1) (lbN l q large ex).1
structure SdOk (W H:Int) (D:ByteArray) (w h:Int) (d:ByteArray) (left top:Int) (key:Bool) (q:Int) (large ex:Bool) (x y kd mode dx dy:Int) (l:List Int):Prop where
 now:PicR W H D
 at_:SqAt W H x y
 left_:0≤left∧left≤256
 top_:0≤top∧top≤256
 sq:sqB kd mode dx dy l=true
 cond:condB q large ex=true
 let_:key=true→kd=2
 ref:kd≠2→PicR w h d
open Classical in
theorem sqB_kinds {kd mode dx dy:Int} {l:List Int} (h:sqB kd mode dx dy l=true):(kd=0∧dx=0∧dy=0)∨(kd=1∧(-16≤dx∧dx≤16)∧(-16≤dy∧dy≤16))∨(kd=2∧0≤mode∧mode≤3):=by
 unfold sqB at h;by_cases k0:kd=0
 ·rw [if_pos k0] at h;simp only [Bool.and_eq_true,decide_eq_true_eq] at h;exact Or.inl ⟨k0,h.2.1,h.2.2.1⟩
 ·rw [if_neg k0] at h;by_cases k1:kd=1
  ·rw [if_pos k1] at h;simp only [Bool.and_eq_true,decide_eq_true_eq] at h;exact Or.inr (Or.inl ⟨k1,h.2.1,h.2.2.1⟩)
  ·rw [if_neg k1] at h;by_cases k2:kd=2
   ·rw [if_pos k2] at h;simp only [Bool.and_eq_true,decide_eq_true_eq] at h;exact Or.inr (Or.inr ⟨k2,h.1⟩)
   ·rw [if_neg k2] at h;cases h
theorem sqat_in {W H x y:Int} {D:ByteArray} (hp:PicR W H D) (hs:SqAt W H x y):(0≤x∧x≤248)∧(0≤y∧y≤248):=by
 obtain ⟨h1,h2,_⟩:=hp;obtain ⟨_,_,h3,h4⟩:=hs;omega
theorem sd_wraps {left top x y dx dy:Int} (hl:0≤left∧left≤256) (ht:0≤top∧top≤256) (hx:0≤x∧x≤248) (hy:0≤y∧y≤248) (hdx:-16≤dx∧dx≤16) (hdy:-16≤dy∧dy≤16) :
  wrap64 (left + x)=left + x∧wrap64 (top + y)=top + y∧wrap64 (left + x + dx)=left + x + dx∧wrap64 (top + y + dy)=top + y + dy :=
 ⟨wrap_id (by omega) (by omega),wrap_id (by omega) (by omega),wrap_id (by omega) (by omega),wrap_id (by omega) (by omega)⟩
theorem isd_good (W H:Int) (D:ByteArray) (w h:Int) (d:ByteArray) (left top:Int) (key:Bool) (q:Int) (large ex:Bool) (x y kd mode dx dy:Int) (l:List Int) (hl:l.length≤1048576) (o:SdOk W H D w h d left top key q large ex x y kd mode dx dy l) :
  Ev (fun k=>impl_SquareDots.j0 k left top x y false W H D w h d key q large ex kd mode dx dy l) (sdG W H D w h d left top q large ex x y kd mode dx dy l,true):=by
 obtain ⟨hx,hy⟩:=sqat_in o.now o.at_;have eb:=levelsback_ev l (by omega) key q large ex;have hbl:=lbN_len l q large ex;rcases sqB_kinds o.sq with ⟨k0,_,_⟩ | ⟨k1,hdx,hdy⟩ | ⟨k2,_⟩
 ·obtain ⟨w1,w2,_,_⟩:=sd_wraps o.left_ o.top_ hx hy (dx:=0) (dy:=0) (by omega) (by omega);have hp:=o.ref (by omega);have el:=o.left_;have et:=o.top_;have e:=block_ev w h d (left + x) (top + y) hp (by omega) (by omega);have ev:sdG W H D w h d left top q large ex x y kd mode dx dy l=blockv w h d (left + x) (top + y):=if_pos k0;rw [ev];refine Ev.step (fun k=>by simp only [impl_SquareDots.j0,w1,w2];rw [if_neg (show ¬ (false=true) by decide),if_pos k0]) ?_;exact Ev.bind e (Ev.now _)
 ·obtain ⟨w1,w2,w3,w4⟩:=sd_wraps o.left_ o.top_ hx hy hdx hdy;have hp:=o.ref (by omega);have el:=o.left_;have et:=o.top_;have n0:¬ kd=0:=by omega
  have e:=block_ev w h d (left + x + dx) (top + y + dy) hp (by omega) (by omega);have ej:=joined_ev (blockv w h d (left + x + dx) (top + y + dy)) (lbN l q large ex).1 (by rw [blockv_len];omega) (by omega);have ev:sdG W H D w h d left top q large ex x y kd mode dx dy l=jv (blockv w h d (left + x + dx) (top + y + dy)) (lbN l q large ex).1:=by unfold sdG;rw [if_neg n0,if_pos k1]
  rw [ev];refine Ev.step (fun k=>by simp only [impl_SquareDots.j0,w1,w2,w3,w4];rw [if_neg (show ¬ (false=true) by decide),if_neg n0]) (Ev.bind eb ?_);simp only [k1,if_true];exact Ev.bind e (Ev.bind ej (Ev.now _))
 ·have n0:¬ kd=0:=by omega
  have n1:¬ kd=1:=by omega
  have ee:=edgesof_ev W H D x y;have hel:=edgesV_len W H D x y;have eg:=guessof_ev mode (edgesV W H D x y).1 (edgesV W H D x y).2.1 (edgesV W H D x y).2.2.1 (by omega) (by omega);have ej:=joined_ev (guessR mode (edgesV W H D x y).1 (edgesV W H D x y).2.1 (edgesV W H D x y).2.2.1) (lbN l q large ex).1 (by have:=guessR_len mode (edgesV W H D x y).1 (edgesV W H D x y).2.1 (edgesV W H D x y).2.2.1;omega) (by omega);have ev:sdG W H D w h d left top q large ex x y kd mode dx dy l=jv (guessR mode (edgesV W H D x y).1 (edgesV W H D x y).2.1 (edgesV W H D x y).2.2.1) (lbN l q large ex).1:=by unfold sdG;rw [if_neg n0,if_neg n1]
  rw [ev];refine Ev.step (fun k=>by simp only [impl_SquareDots.j0];rw [if_neg (show ¬ (false=true) by decide),if_neg n0]) (Ev.bind eb ?_);simp only [n1,if_false];exact Ev.bind ee (Ev.bind eg (Ev.bind ej (Ev.now _)))
theorem unsc_in {side M:Int} {l:List Int} (hM:0≤M) (h:InM M l):∀ (d i:Nat) (out:List Int),InM M out→InM M (unsc side l d i out)
 | 0,_,_,ho=>ho
 | d + 1,i,_,ho=>unsc_in hM h d (i + 1) _ (set_in ho _ (rd_in hM h _))
theorem unscv_in {side M:Int} {l:List Int} (hM:0≤M) (h:InM M l):InM M (unscv side l):=unsc_in hM h _ _ _ (fun v hv=>by have:=List.eq_of_mem_replicate hv;omega)
theorem ebv_good {x:List Int} (h:EbOk x):(ebv x).length=64∧InM 10000000 (ebv x):=by
 unfold ebv;rw [if_pos h];have h2:=allB_iff.1 (sumsv_all h.1 h.2);refine ⟨by rw [settledL_len,sumsv_len],fun v hv=>?_⟩;unfold settledL at hv;obtain ⟨y,hy,rfl⟩:=List.mem_map.1 hv;have:=h2 y hy;unfold down64;omega
theorem turned16 (T:Int→Int→Int→Int→Int × Int × Int × Int) (a0 a1 a2 a3 a4 a5 a6 a7 a8 a9 a10 a11 a12 a13 a14 a15:Int) :
  turnedL T [a0,a1,a2,a3,a4,a5,a6,a7,a8,a9,a10,a11,a12,a13,a14,a15] =
   (let R0:=T a0 a1 a2 a3;let R1:=T a4 a5 a6 a7;let R2:=T a8 a9 a10 a11;let R3:=T a12 a13 a14 a15
    let C0:=T R0.1 R1.1 R2.1 R3.1;let C1:=T R0.2.1 R1.2.1 R2.2.1 R3.2.1;let C2:=T R0.2.2.1 R1.2.2.1 R2.2.2.1 R3.2.2.1;let C3:=T R0.2.2.2 R1.2.2.2 R2.2.2.2 R3.2.2.2
    [C0.1,C1.1,C2.1,C3.1,C0.2.1,C1.2.1,C2.2.1,C3.2.1,C0.2.2.1,C1.2.2.1,C2.2.2.1,C3.2.2.1,C0.2.2.2,C1.2.2.2,C2.2.2.2,C3.2.2.2]):=by kernel_rfl
theorem turned_in {M:Int} {x:List Int} (hx:x.length=16) (h:InM M x) (hM:M≤10000000):InM (16 * M + 20) (turnedL b4 x):=by
 match x,hx with
 | [a0,a1,a2,a3,a4,a5,a6,a7,a8,a9,a10,a11,a12,a13,a14,a15],_ =>
  rw [turned16];have g:∀ v ∈ [a0,a1,a2,a3,a4,a5,a6,a7,a8,a9,a10,a11,a12,a13,a14,a15],-M≤v∧v≤M:=h;simp only [List.mem_cons,List.not_mem_nil,or_false,forall_eq_or_imp,forall_eq] at g;obtain ⟨g0,g1,g2,g3,g4,g5,g6,g7,g8,g9,g10,g11,g12,g13,g14,g15⟩:=g;have r0:=b4_small (by omega) g0 g1 g2 g3;have r1:=b4_small (by omega) g4 g5 g6 g7;have r2:=b4_small (by omega) g8 g9 g10 g11;have r3:=b4_small (by omega) g12 g13 g14 g15;have c0:=b4_small (by omega) r0.1 r1.1 r2.1 r3.1;have c1:=b4_small (by omega) r0.2.1 r1.2.1 r2.2.1 r3.2.1;have c2:=b4_small (by omega) r0.2.2.1 r1.2.2.1 r2.2.2.1 r3.2.2.1;have c3:=b4_small (by omega) r0.2.2.2 r1.2.2.2 r2.2.2.2 r3.2.2.2;clear r0 r1 r2 r3 g0 g1 g2 g3 g4 g5 g6 g7 g8 g9 g10 g11 g12 g13 g14 g15 h;intro v hv;dsimp only at hv;simp only [List.mem_cons,List.not_mem_nil,or_false] at hv;rcases hv with rfl | rfl | rfl | rfl | rfl | rfl | rfl | rfl | rfl | rfl | rfl | rfl | rfl | rfl | rfl | rfl
  ·have:=c0.1;omega
  ·have:=c1.1;omega
  ·have:=c2.1;omega
  ·have:=c3.1;omega
  ·have:=c0.2.1;omega
  ·have:=c1.2.1;omega
  ·have:=c2.2.1;omega
  ·have:=c3.2.1;omega
  ·have:=c0.2.2.1;omega
  ·have:=c1.2.2.1;omega
  ·have:=c2.2.2.1;omega
  ·have:=c3.2.2.1;omega
  ·have:=c0.2.2.2;omega
  ·have:=c1.2.2.2;omega
  ·have:=c2.2.2.2;omega
  ·have:=c3.2.2.2;omega
theorem fbv_good {x:List Int} (h:FbOk x):InM 10000000 (fbv x):=by
 unfold fbv;rw [if_pos h];intro v hv;unfold settledL at hv;obtain ⟨y,hy,rfl⟩:=List.mem_map.1 hv;have:=turned_in h.1 (M:=10000000) (allB_iff.1 h.2) (by omega) y hy;unfold down64;omega
theorem scat_in {M:Int} {out v:List Int} (hM:0≤M) (ho:InM M out) (hv:InM M v) (kk:Nat):∀ i,InM M (scat out kk v i)
 | 0=>ho
 | i + 1=>set_in (scat_in hM ho hv kk i) _ (rd_in hM hv _)
theorem outb_in {l:List Int} (hl:l.length=64) {q:Int} (hq:0≤q∧q≤40):∀ k,k≤4→InM 10000000 (outb l q k)
 | 0,_=>fun v hv=>by have:=List.eq_of_mem_replicate hv;omega
 | k + 1,hk=>scat_in (by omega) (outb_in hl hq k (by omega)) (fbv_good (smallB_ok _ (by rw [unscv_len,slc_len l hl k (by omega)]) hq)) k 16
theorem largeB_in {q:Int} (hq:0≤q∧q≤40) (x:Int):-10000000≤largeB x q∧largeB x q≤10000000:=by
 unfold largeB
 split
 ·rename_i hx
  have h:=mul_in (x:=x) (s:=stepN q) (a:=5000) (b:=1152) (by omega) (by have:=stepN_in hq;omega) (by omega);rw [wrap_id (by omega) (by omega)];omega
 ·omega
theorem lbN_good {l:List Int} {q:Int} {c d:Bool} (hl:levB l=true) (hc:condB q c d=true):(lbN l q c d).1.length=64∧allB (-10000000) 10000000 (lbN l q c d).1=true:=by
 unfold levB at hl;simp only [Bool.and_eq_true,decide_eq_true_eq] at hl;have hq:0≤q∧q≤40:=by
  unfold condB at hc;simp only [Bool.and_eq_true,decide_eq_true_eq] at hc;exact hc.1
 have hi:InM 5000 l:=allB_iff.1 hl.2;unfold lbN;rw [if_pos ⟨hl,hc⟩];cases d with
 | true=>exact ⟨by simp only [if_true];rw [unscv_len];exact hl.1,allB_iff.2 (grow_in (unscv_in (side:=8) (by omega) hi) (by omega))⟩
 | false =>
  rw [if_neg (show ¬ (false=true) by decide)];cases c with
  | true =>
   have h:=ebv_good (x:=(unscv 8 l).map (largeB · q)) ⟨by rw [List.length_map,unscv_len];exact hl.1,allB_iff.2 (fun v hv=>by
    obtain ⟨y,hy,rfl⟩:=List.mem_map.1 hv;exact largeB_in hq y)⟩
   exact ⟨h.1,allB_iff.2 h.2⟩
  | false =>
   have h4:=outb_len l q 4;have h5:=outb_in hl.1 hq 4 (by omega);rw [if_neg (show ¬ (false=true) by decide)];generalize outb l q 4=o at h4 h5 ⊢;exact ⟨h4,allB_iff.2 h5⟩
def rowV (w:Int) (d:ByteArray) (x cw y:Int):List Int:=bytesOf (d.extract (y * w + x).toNat (y * w + x + cw).toNat)
/-- The dots of n rows of a cut from row y on, behind out. -/
def cutF (w:Int) (d:ByteArray) (x cw:Int):Nat→Int→List Int→List Int
 | 0,_,out=>out
 | n + 1,y,out=>cutF w d x cw n (y + 1) (out ++ rowV w d x cw y)
/-- The rectangle lies inside. -/
def HoldR (w h x y cw ch:Int):Prop:=(1≤cw∧cw≤w)∧(1≤ch∧ch≤h)∧(0≤x∧x≤w - cw)∧(0≤y∧y≤h - ch)
instance (w h x y cw ch:Int):Decidable (HoldR w h x y cw ch):=by unfold HoldR;infer_instance
theorem cut_facts (w h:Int) (d:ByteArray) (x y0 cw ch:Int) (hp:PicR w h d) (hh:HoldR w h x y0 cw ch) (y:Int) (h0:y0≤y) (h1:y + 1≤y0 + ch) :
  0≤y * w + x∧y * w + x + cw≤(d.size:Int)∧0≤y * w∧y * w≤65536∧(d.size:Int)≤65536:=by
 unfold HoldR at hh;unfold PicR at hp;have a:=small_mul (w:=y) (h:=w) (a:=256) (b:=256) (by omega) (by omega) (by omega) (by omega);have b:=small_mul (w:=w) (h:=h) (a:=256) (b:=256) (by omega) (by omega) (by omega) (by omega);have c:(y + 1) * w≤h * w:=Int.mul_le_mul_of_nonneg_right (by omega) (by omega);have e:(y + 1) * w=y * w + w:=by rw [Int.add_mul,Int.one_mul]
 have f:h * w=w * h:=Int.mul_comm _ _;rw [e,f] at c;omega
def cutV (w h:Int) (d:ByteArray) (x y cw ch:Int):Int × Int × ByteArray × Bool:=if PicR w h d∧HoldR w h x y cw ch then (cw,ch,strOfNums (cutF w d x cw ch.toNat y []),true) else (0,0,(⟨#[]⟩:ByteArray),false)
theorem holds_eq (w h:Int) (d:ByteArray) (x y cw ch:Int) (hp:PicR w h d):impl_Pic_holds.f w h d x y cw ch=some (decide (HoldR w h x y cw ch)):=by
 unfold impl_Pic_holds.f HoldR;unfold PicR at hp;simp only [within_eq,Option.bind_some];by_cases c1:1≤cw∧cw≤w
 ·by_cases c2:1≤ch∧ch≤h
  ·rw [wrap_id (x:=w - cw) (by omega) (by omega),wrap_id (x:=h - ch) (by omega) (by omega)];by_cases c3:0≤x∧x≤w - cw
   ·simp only [c1,c2,c3,decide_true,if_true,true_and,and_self]
   ·simp only [c1,c2,c3,decide_true,decide_false,if_true,true_and,false_and,and_self,Bool.false_eq_true,if_false]
  ·simp only [c1,c2,decide_true,decide_false,if_true,true_and,false_and,and_self,Bool.false_eq_true,if_false]
 ·simp only [c1,decide_false,false_and,Bool.false_eq_true,if_false]
theorem sholds_eq (w h:Int) (d:ByteArray) (x y cw ch:Int):spec_l12Within.f w h d x y cw ch=some (decide (PicR w h d∧HoldR w h x y cw ch)):=by
 unfold spec_l12Within.f;rw [pic_some,Option.bind_some];by_cases hp:PicR w h d
 ·have hp':=hp;unfold PicR at hp';unfold HoldR;simp only [in_eq,Option.bind_some,hp,decide_true,if_true,true_and];by_cases c1:1≤cw∧cw≤w
  ·by_cases c2:1≤ch∧ch≤h
   ·rw [wrap_id (x:=w - cw) (by omega) (by omega),wrap_id (x:=h - ch) (by omega) (by omega)];by_cases c3:0≤x∧x≤w - cw
    ·simp only [c1,c2,c3,decide_true,if_true,true_and,and_self]
    ·simp only [c1,c2,c3,decide_true,decide_false,if_true,true_and,false_and,and_self,Bool.false_eq_true,if_false]
   ·simp only [c1,c2,decide_true,decide_false,if_true,true_and,false_and,and_self,Bool.false_eq_true,if_false]
  ·simp only [c1,decide_false,false_and,Bool.false_eq_true,if_false]
 ·simp only [hp,decide_false,false_and,Bool.false_eq_true,if_false]
theorem cut_loop (w h:Int) (d:ByteArray) (x y0 cw ch:Int) (hp:PicR w h d) (hh:HoldR w h x y0 cw ch) (n:Nat):∀ (y:Int) (out:List Int),y + (n:Int)=y0 + ch→y0≤y→out.length + 70000 * n≤30000000 →
  Ev (fun k=>impl_CutOf.l0 k out y w h d x y0 cw ch) (cw,ch,strOfNums (cutF w d x cw n y out),true):=by
 have q:=hh;unfold HoldR at q;have q2:=hp;unfold PicR at q2
 induction n with
 | zero =>
  intro y out e hy hl;refine Ev.step (f:=fun _=>some (cw,ch,strOfNums out,true)) (fun k=>?_) (Ev.now _);simp only [impl_CutOf.l0];rw [wrap_id (x:=y0 + ch) (by omega) (by omega),if_neg (by omega)]
 | succ n ih =>
  intro y out e hy hl;obtain ⟨f0,f1,f2,f3,f4⟩:=cut_facts w h d x y0 cw ch hp hh y hy (by omega);have hr:(rowV w d x cw y).length≤70000:=by
   unfold rowV;rw [bytesOf_length,ByteArray.size_extract];omega
  have h':=ih (y + 1) (out ++ rowV w d x cw y) (by omega) (by omega) (by rw [List.length_append];omega);have g1:y < y0 + ch:=by omega
  have g2:y * w + x≤y * w + x + cw:=by omega
  have g3:out.length + (d.extract (y * w + x).toNat (y * w + x + cw).toNat).size < 140737488355328:=by
   rw [ByteArray.size_extract];omega
  have w1:wrap64 (y0 + ch)=y0 + ch:=wrap_id (by omega) (by omega);have w2:wrap64 (y * w)=y * w:=by clear w1;exact wrap_id (by omega) (by omega)
  have w3:wrap64 (y * w + x)=y * w + x:=by clear w1 w2;exact wrap_id (by omega) (by omega)
  have w4:wrap64 (y * w + x + cw)=y * w + x + cw:=by clear w1 w2 w3;exact wrap_id (by omega) (by omega)
  have w5:wrap64 (y + 1)=y + 1:=by clear w1 w2 w3 w4;exact wrap_id (by omega) (by omega)
  refine Ev.step (fun k=>?_) h';simp only [impl_CutOf.l0];rw [w1,if_pos g1,w2,w3,w4,if_pos f0,if_pos g2,if_pos f1,if_pos g3,w5]
  rfl
theorem scut_loop (w h:Int) (d:ByteArray) (x y0 cw ch:Int) (hp:PicR w h d) (hh:HoldR w h x y0 cw ch) (n:Nat):∀ (y:Int) (out:List Int),y + (n:Int)=y0 + ch→y0≤y→out.length + 70000 * n≤30000000 →
  Ev (fun k=>spec_CutOf.l0 k out y w h d x y0 cw ch) (cw,ch,strOfNums (cutF w d x cw n y out),true):=by
 have q:=hh;unfold HoldR at q;have q2:=hp;unfold PicR at q2
 induction n with
 | zero =>
  intro y out e hy hl;refine Ev.step (f:=fun _=>some (cw,ch,strOfNums out,true)) (fun k=>?_) (Ev.now _);simp only [spec_CutOf.l0];rw [wrap_id (x:=y0 + ch) (by omega) (by omega),if_neg (by omega)]
 | succ n ih =>
  intro y out e hy hl;obtain ⟨f0,f1,f2,f3,f4⟩:=cut_facts w h d x y0 cw ch hp hh y hy (by omega);have hr:(rowV w d x cw y).length≤70000:=by
   unfold rowV;rw [bytesOf_length,ByteArray.size_extract];omega
  have h':=ih (y + 1) (out ++ rowV w d x cw y) (by omega) (by omega) (by rw [List.length_append];omega);have g1:y < y0 + ch:=by omega
  have g2:y * w + x≤y * w + x + cw:=by omega
  have g3:out.length + (d.extract (y * w + x).toNat (y * w + x + cw).toNat).size < 140737488355328:=by
   rw [ByteArray.size_extract];omega
  have w1:wrap64 (y0 + ch)=y0 + ch:=wrap_id (by omega) (by omega);have w2:wrap64 (y * w)=y * w:=by clear w1;exact wrap_id (by omega) (by omega)
  have w3:wrap64 (y * w + x)=y * w + x:=by clear w1 w2;exact wrap_id (by omega) (by omega)
  have w4:wrap64 (y * w + x + cw)=y * w + x + cw:=by clear w1 w2 w3;exact wrap_id (by omega) (by omega)
  have w5:wrap64 (y + 1)=y + 1:=by clear w1 w2 w3 w4;exact wrap_id (by omega) (by omega)
  refine Ev.step (fun k=>?_) h';simp only [spec_CutOf.l0];rw [w1,if_pos g1,w2,w3,w4,if_pos f0,if_pos g2,if_pos f1,if_pos g3,w5]
  rfl
theorem cutof_ev (w h:Int) (d:ByteArray) (x y cw ch:Int):Ev (fun k=>impl_CutOf.f k w h d x y cw ch) (cutV w h d x y cw ch):=by
 unfold impl_CutOf.f cutV;have hbad:Ev (fun k=>impl_CutOf.j0 k true w h d x y cw ch) (0,0,(⟨#[]⟩:ByteArray),false):=Ev.step (f:=fun _=>some (0,0,(⟨#[]⟩:ByteArray),false)) (fun k=>by simp only [impl_CutOf.j0];rfl) (Ev.now _);rw [ipic_some];simp only [Option.bind_some];by_cases hp:PicR w h d
 ·rw [holds_eq w h d x y cw ch hp];simp only [hp,decide_true,if_true,true_and,Option.bind_some];by_cases hh:HoldR w h x y cw ch
  ·rw [if_pos hh];simp only [hh,decide_true,Bool.not_true];have q:=hh;unfold HoldR at q;have q2:=hp;unfold PicR at q2;have b:=small_mul (w:=cw) (h:=ch) (a:=256) (b:=256) (by omega) (by omega) (by omega) (by omega);have hl:=cut_loop w h d x y cw ch hp hh ch.toNat y [] (by omega) (by omega) (by simp;omega);have w1:wrap64 (cw * ch)=cw * ch:=wrap_id (by omega) (by omega);have g1:(cw * ch).toNat≤281474976710656:=by clear w1 hl;omega
   refine Ev.step (fun k=>?_) hl;simp only [impl_CutOf.j0,Bool.false_eq_true,if_false];rw [w1,if_pos b.1,if_pos g1]
  ·rw [if_neg hh];simp only [hh,decide_false,Bool.not_false];exact hbad
 ·simp only [hp,decide_false,false_and,if_false,Bool.false_eq_true];exact hbad
theorem scutof_ev (w h:Int) (d:ByteArray) (x y cw ch:Int):Ev (fun k=>spec_CutOf.f k w h d x y cw ch) (cutV w h d x y cw ch):=by
 unfold spec_CutOf.f cutV;rw [sholds_eq];simp only [Option.bind_some];by_cases hq:PicR w h d∧HoldR w h x y cw ch
 ·rw [if_pos hq];simp only [hq,and_self,decide_true,if_true];have q:=hq.2;unfold HoldR at q;have q2:=hq.1;unfold PicR at q2;exact scut_loop w h d x y cw ch hq.1 hq.2 ch.toNat y [] (by omega) (by omega) (by simp;omega)
 ·rw [if_neg hq];simp only [hq,decide_false,if_false,Bool.false_eq_true];exact Ev.now _
theorem bt_extract (e:ByteArray) (a b j:Nat) (h:a + j < b) (hb:b≤e.size):(bytesOf (e.extract a b))[j]'(by rw [bytesOf_length,ByteArray.size_extract];omega)=bt e ((a + j:Nat):Int):=by
 rw [← rd_bytesOf,rd_nat (bytesOf e) (a + j) (by rw [bytesOf_length];omega)]
 simp [bytesOf]
theorem getElem_rep {n i:Nat} {v:Int} (h:i < (List.replicate n v).length):(List.replicate n v)[i]=v:=List.getElem_replicate h
theorem long_ev (n:Nat) (v:Int) (hn:n≤281474976710656):Ev (fun k=>spec_l01Long.f k (n:Int) v) (strOfNums (List.replicate n v)):=by
 have H:∀ i,i≤n→Ev (fun k=>spec_l01Long.l0 k (n:Int) v ((List.replicate n v).take i ++ (List.replicate n (0:Int)).drop i) (i:Int)) (strOfNums (List.replicate n v)):=by
  refine down n ?_ ?_
  ·refine Ev.step (f:=fun _=>some (strOfNums (List.replicate n v))) (fun k=>?_) (Ev.now _);have:=mix_end (List.replicate n v) (List.replicate n (0:Int)) (by simp);rw [List.length_replicate] at this;simp only [spec_l01Long.l0];rw [if_neg (by omega),this]
  ·intro i hi h;refine Ev.step (fun k=>?_) h;have hl:i < (List.replicate n v).length:=by simp;exact hi
   have e:=mix_set (List.replicate n v) (List.replicate n (0:Int)) i hl (by simp;exact hi);rw [getElem_rep] at e;simp only [spec_l01Long.l0];rw [if_pos (by omega),if_pos (by omega),if_pos (by rw [mix_length _ _ _ (by simp) (by omega)];omega),Int.toNat_natCast,e,wrap_id (by omega) (by omega),cast1]
 have h0:=H 0 (by omega);rw [mix_zero] at h0;unfold spec_l01Long.f;refine Ev.congr (fun k=>?_) h0;rw [if_pos (by omega),if_pos (by rw [Int.toNat_natCast];exact hn),Int.toNat_natCast];rfl
theorem bytesOf_strOfNums {l:List Int} (h:∀ x ∈ l,0≤x∧x≤255):bytesOf (strOfNums l)=l:=by
 unfold bytesOf;rw [strOfNums_data,List.map_map]
 conv=>rhs;rw [← List.map_id l]
 apply List.map_congr_left;intro x hx;have:=h x hx
 simp
 omega
theorem bt_nums (l:List Int) (hb:∀ y ∈ l,0≤y∧y≤255) (k:Int):bt (strOfNums l) k=rd l k:=by rw [← rd_bytesOf,bytesOf_strOfNums hb]
theorem cutF_app (w:Int) (d:ByteArray) (x cw:Int):∀ (n:Nat) (y:Int) (out:List Int),cutF w d x cw n y out=out ++ cutF w d x cw n y []
 | 0,_,out=>by simp [cutF]
 | n + 1,y,out=>by rw [cutF,cutF_app w d x cw n (y + 1) (out ++ rowV w d x cw y),cutF,cutF_app w d x cw n (y + 1) ([] ++ rowV w d x cw y),List.append_assoc,List.nil_append]
theorem cutF_len (w:Int) (d:ByteArray) (x cw:Int) (c:Nat):∀ (n:Nat) (y:Int),(∀ y',y≤y'→y' < y + (n:Int)→(rowV w d x cw y').length=c)→(cutF w d x cw n y []).length=n * c
 | 0,_,_=>by simp [cutF]
 | n + 1,y,h=>by
  rw [cutF,cutF_app,List.length_append,List.nil_append,h y (by omega) (by omega),cutF_len w d x cw c n (y + 1) (fun y' h1 h2=>h y' (by omega) (by omega)),Nat.add_mul,Nat.one_mul,Nat.add_comm]
theorem row_rd {w h:Int} {b:ByteArray} {x y0 cw ch:Int} (hp:PicR w h b) (hh:HoldR w h x y0 cw ch) (y:Int) (h0:y0≤y) (h1:y + 1≤y0 + ch):(rowV w b x cw y).length=cw.toNat∧∀ i:Int,0≤i→i < cw→rd (rowV w b x cw y) i=bt b (y * w + x + i):=by
 obtain ⟨f0,f1,f2,f3,f4⟩:=cut_facts w h b x y0 cw ch hp hh y h0 h1;have q:=hh;unfold HoldR at q;have hl:(rowV w b x cw y).length=cw.toNat:=by
  unfold rowV;rw [bytesOf_length,ByteArray.size_extract];omega
 refine ⟨hl,fun i i0 i1=>?_⟩;obtain ⟨j,rfl⟩:=Int.eq_ofNat_of_zero_le i0;rw [rd_nat _ j (by omega)];have:=bt_extract b (y * w + x).toNat (y * w + x + cw).toNat j (by omega) (by omega);rw [show (((y * w + x).toNat + j:Nat):Int)=y * w + x + (j:Int) by omega] at this;exact this
theorem cut_pic {w h:Int} {b:ByteArray} {x y0 cw ch:Int} (hp:PicR w h b) (hh:HoldR w h x y0 cw ch):PicR cw ch (strOfNums (cutF w b x cw ch.toNat y0 [])):=by
 have q:=hh;unfold HoldR at q;have q2:=hp;unfold PicR at q2;refine ⟨by omega,by omega,?_⟩;rw [strOfNums_size,cutF_len w b x cw cw.toNat ch.toNat y0 (fun y' g0 g1=>(row_rd hp hh y' g0 (by omega)).1)];rw [Int.natCast_mul,Int.toNat_of_nonneg (by omega),Int.toNat_of_nonneg (by omega),Int.mul_comm]
theorem place_of {w h:Int} (hw:1≤w) {k:Int} (h0:0≤k) (h1:k < w * h):∃ X Y,k=Y * w + X∧0≤X∧X < w∧0≤Y∧Y < h:=by
 refine ⟨k % w,k / w,?_,Int.emod_nonneg _ (by omega),Int.emod_lt_of_pos _ (by omega),Int.ediv_nonneg h0 (by omega),?_⟩
 ·have:=Int.mul_ediv_add_emod k w;rw [Int.mul_comm] at this;omega
 ·rw [Int.mul_comm] at h1;exact Int.ediv_lt_of_lt_mul (by omega) h1
/-- What a grey picture's dots are. -/
def greyd (w h:Int):ByteArray:=strOfNums (List.replicate (w * h).toNat 128)
def GOk (w h:Int):Prop:=(1≤w∧w≤256)∧(1≤h∧h≤256)
instance (w h:Int):Decidable (GOk w h):=by unfold GOk;infer_instance
theorem sgrey_ev (w h:Int):Ev (fun k=>spec_Grey.f k w h) (if GOk w h then (w,h,greyd w h) else (0,0,⟨#[]⟩)):=by
 unfold spec_Grey.f;simp only [in_eq,Option.bind_some];by_cases c1:1≤w∧w≤256
 ·by_cases c2:1≤h∧h≤256
  ·rw [if_pos ⟨c1,c2⟩];simp only [c1,c2,and_self,decide_true,if_true];have hm:=small_mul (w:=w) (h:=h) (a:=256) (b:=256) (by omega) c1.2 (by omega) c2.2;rw [wrap_id (x:=w * h) (by omega) (by omega)];have e:=long_ev (w * h).toNat 128 (by omega);rw [Int.toNat_of_nonneg hm.1] at e;refine Ev.bind e (Ev.now _)
  ·rw [if_neg (fun h=>c2 h.2)];simp only [c1,c2,and_self,decide_true,decide_false,if_true,Bool.false_eq_true,if_false];exact Ev.now _
 ·rw [if_neg (fun h=>c1 h.1)];simp only [c1,decide_false,Bool.false_eq_true,if_false];exact Ev.now _
theorem grey_loop (w h:Int) (n:Nat) (hn:n≤281474976710656):Ev (fun k=>impl_Grey.l0 k w h (List.replicate n 0) (n:Int) 0) (w,h,strOfNums (List.replicate n 128)):=by
 have H:∀ i,i≤n→Ev (fun k=>impl_Grey.l0 k w h ((List.replicate n 128).take i ++ (List.replicate n (0:Int)).drop i) (n:Int) (i:Int)) (w,h,strOfNums (List.replicate n 128)):=by
  refine down n ?_ ?_
  ·refine Ev.step (f:=fun _=>some (w,h,strOfNums (List.replicate n 128))) (fun k=>?_) (Ev.now _);have:=mix_end (List.replicate n (128:Int)) (List.replicate n (0:Int)) (by simp);rw [List.length_replicate] at this;simp only [impl_Grey.l0];rw [if_neg (by omega),this]
  ·intro i hi hh;refine Ev.step (fun k=>?_) hh;have hl:i < (List.replicate n (128:Int)).length:=by simp;exact hi
   have e:=mix_set (List.replicate n (128:Int)) (List.replicate n (0:Int)) i hl (by simp;exact hi);rw [getElem_rep] at e;simp only [impl_Grey.l0];rw [if_pos (by omega),if_pos (by omega),if_pos (by rw [mix_length _ _ _ (by simp) (by omega)];omega),Int.toNat_natCast,e,wrap_id (by omega) (by omega),cast1]
 have h0:=H 0 (by omega);rw [mix_zero] at h0;exact h0
theorem grey_ev (w h:Int):Ev (fun k=>impl_Grey.f k w h) (if GOk w h then (w,h,greyd w h) else (0,0,⟨#[]⟩)):=by
 unfold impl_Grey.f;simp only [within_eq,Option.bind_some];by_cases c1:1≤w∧w≤256
 ·by_cases c2:1≤h∧h≤256
  ·rw [if_pos ⟨c1,c2⟩];simp only [c1,c2,and_self,decide_true,if_true,Bool.not_true];have hm:=small_mul (w:=w) (h:=h) (a:=256) (b:=256) (by omega) c1.2 (by omega) c2.2;have e:=grey_loop w h (w * h).toNat (by omega);refine Ev.step (fun k=>?_) e;simp only [impl_Grey.j0,Bool.false_eq_true,if_false,Option.bind_some];rw [wrap_id (x:=w * h) (by omega) (by omega),if_pos hm.1,if_pos (by omega),List.length_replicate]
  ·rw [if_neg (fun h=>c2 h.2)];simp only [c1,c2,and_self,decide_true,decide_false,if_true,Bool.not_false];exact Ev.step (f:=fun _=>some (0,0,⟨#[]⟩)) (fun k=>by simp only [impl_Grey.j0];rfl) (Ev.now _)
 ·rw [if_neg (fun h=>c1 h.1)];simp only [c1,decide_false,Bool.false_eq_true,if_false];exact Ev.step (f:=fun _=>some (0,0,⟨#[]⟩)) (fun k=>by simp only [impl_Grey.j0];rfl) (Ev.now _)
theorem edges_right {W H:Int} {D:ByteArray} {x y:Int} (hp:PicR W H D) (hs:SqAt W H x y):EdR (edgesV W H D x y).1 (edgesV W H D x y).2.1 (edgesV W H D x y).2.2.1:=by
 unfold edgesV;rw [if_pos ⟨hp,hs⟩];exact ⟨(above_len W H D x y).symm,(left_len W H D x y).symm,above_in W H D x y,left_in W H D x y,corn_in W H D x y⟩
theorem jv_good {g d:List Int} (h:JOk g d):(jv g d).length=64∧∀ v ∈ jv g d,0≤v∧v≤255:=by
 unfold jv;rw [if_pos h];unfold joinv;refine ⟨by rw [List.length_zipWith,h.1.1,h.2.1];rfl,fun v hv=>?_⟩;obtain ⟨i,hi,rfl⟩:=List.getElem_of_mem hv;rw [List.getElem_zipWith];unfold mx mn
 repeat' split <;> omega
theorem sqB_lev {kd mode dx dy:Int} {l:List Int} (h:sqB kd mode dx dy l=true) (h0:¬ kd=0):levB l=true:=by
 unfold sqB at h;rw [if_neg h0] at h;by_cases k1:kd=1
 ·rw [if_pos k1] at h;simp only [Bool.and_eq_true] at h;exact h.2.2.2
 ·rw [if_neg k1] at h;by_cases k2:kd=2
  ·rw [if_pos k2] at h;simp only [Bool.and_eq_true] at h;exact h.2.2.2
  ·rw [if_neg k2] at h;cases h
theorem sqB_len {kd mode dx dy:Int} {l:List Int} (h:sqB kd mode dx dy l=true):l.length≤64:=by
 by_cases h0:kd=0
 ·unfold sqB at h;rw [if_pos h0] at h;simp only [Bool.and_eq_true,decide_eq_true_eq] at h;omega
 ·have:=sqB_lev h h0;unfold levB at this;simp only [Bool.and_eq_true,decide_eq_true_eq] at this;omega
theorem sdG_good {W H:Int} {D:ByteArray} {w h:Int} {d:ByteArray} {left top:Int} {key:Bool} {q:Int} {large ex:Bool} {x y kd mode dx dy:Int} {l:List Int} (o:SdOk W H D w h d left top key q large ex x y kd mode dx dy l) :
  (sdG W H D w h d left top q large ex x y kd mode dx dy l).length=64∧∀ v ∈ sdG W H D w h d left top q large ex x y kd mode dx dy l,0≤v∧v≤255:=by
 unfold sdG;rcases sqB_kinds o.sq with ⟨k0,_,_⟩ | ⟨k1,_,_⟩ | ⟨k2,hm⟩
 ·rw [if_pos k0];exact ⟨blockv_len _ _ _ _ _,blockv_in _ _ _ _ _⟩
 ·rw [if_neg (show ¬ kd=0 by omega),if_pos k1];exact jv_good ⟨⟨blockv_len _ _ _ _ _,allB_iff.2 (blockv_in _ _ _ _ _)⟩,lbN_good (sqB_lev o.sq (by omega)) o.cond⟩
 ·rw [if_neg (show ¬ kd=0 by omega),if_neg (show ¬ kd=1 by omega)];have e:=edges_right o.now o.at_;have g:guessR mode (edgesV W H D x y).1 (edgesV W H D x y).2.1 (edgesV W H D x y).2.2.1=guessV mode (edgesV W H D x y).1 (edgesV W H D x y).2.1 (edgesV W H D x y).2.2.1:=if_pos ⟨right_edgesB e,hm⟩;rw [g];exact jv_good ⟨⟨guessV_len _ _ _ _,allB_iff.2 (guessV_in e)⟩,lbN_good (sqB_lev o.sq (by omega)) o.cond⟩
theorem isd_now {W H:Int} {D:ByteArray} {w h:Int} {d:ByteArray} {left top:Int} {key:Bool} {q:Int} {large ex:Bool} {x y kd mode dx dy:Int} {l:List Int} (o:SdOk W H D w h d left top key q large ex x y kd mode dx dy l) :
  Ev (fun k=>impl_SquareDots.f k W H D w h d left top key q large ex x y kd mode dx dy l) (sdG W H D w h d left top q large ex x y kd mode dx dy l,true):=by
 have hl:=sqB_len o.sq;have e7:(if key=true then some (kd == 2) else some true)=some true:=by
  cases hk:key with
  | false=>rfl
  | true=>rw [if_pos rfl,o.let_ hk];rfl
 have hg:=isd_good W H D w h d left top key q large ex x y kd mode dx dy l (by omega) o;unfold impl_SquareDots.f;simp only [ipic_some,Option.bind_some,within_eq,cond_val,decide_eq_true o.now,if_true,issq_eq W H D x y o.now,decide_eq_true o.at_,decide_eq_true o.left_,decide_eq_true o.top_];refine Ev.bind (sqok_ev kd mode dx dy l (by omega)) ?_;simp only [o.sq,if_true,o.cond,impl_Square_let.f,e7,Option.bind_some];by_cases c8:kd=2
 ·simp only [c8,if_true] at hg ⊢;exact hg
 ·simp only [c8,if_false,decide_eq_true (o.ref c8),Bool.not_true];exact hg
theorem ssd_now {W H:Int} {D:ByteArray} {w h:Int} {d:ByteArray} {left top:Int} {key:Bool} {q:Int} {large ex:Bool} {x y kd mode dx dy:Int} {l:List Int} (o:SdOk W H D w h d left top key q large ex x y kd mode dx dy l) :
  Ev (fun k=>spec_SquareDots.f k W H D w h d left top key q large ex x y kd mode dx dy l) (sdG W H D w h d left top q large ex x y kd mode dx dy l,true):=by
 have hl:=sqB_len o.sq;obtain ⟨hx,hy⟩:=sqat_in o.now o.at_;have eb:=slevelsback_ev l (by omega) key q large ex;have hbl:=lbN_len l q large ex;unfold spec_SquareDots.f;simp only [fits_eq,Option.bind_some,in_eq,scond_val,decide_eq_true (show PicR W H D∧SqAt W H x y from ⟨o.now,o.at_⟩),if_true,decide_eq_true o.left_,decide_eq_true o.top_];refine Ev.bind (ssqok_ev kd mode dx dy l (by omega)) ?_;simp only [o.sq,if_true,o.cond];by_cases c8:kd=2
 ·simp only [c8,if_true];rw [← c8];have ee:=sedgesof_ev W H D x y;have hel:=edgesV_len W H D x y;have eg:=sguessof_ev mode (edgesV W H D x y).1 (edgesV W H D x y).2.1 (edgesV W H D x y).2.2.1 (by omega) (by omega);have ej:=sjoined_ev (guessR mode (edgesV W H D x y).1 (edgesV W H D x y).2.1 (edgesV W H D x y).2.2.1) (lbN l q large ex).1 (by have:=guessR_len mode (edgesV W H D x y).1 (edgesV W H D x y).2.1 (edgesV W H D x y).2.2.1;omega) (by omega);have ev:sdG W H D w h d left top q large ex x y kd mode dx dy l=jv (guessR mode (edgesV W H D x y).1 (edgesV W H D x y).2.1 (edgesV W H D x y).2.2.1) (lbN l q large ex).1:=by unfold sdG;rw [if_neg (show ¬ kd=0 by omega),if_neg (show ¬ kd=1 by omega)]
  rw [ev];exact Ev.bind ee (Ev.bind eb (Ev.bind eg (Ev.bind ej (Ev.now _))))
 ·simp only [c8,if_false];have hk:key=false:=by
   cases hk:key with
   | false=>rfl
   | true=>exact absurd (o.let_ hk) c8
  have hp:=o.ref c8;have el:=o.left_;have et:=o.top_;subst hk;simp only [Bool.false_eq_true,if_false,pic_some,Option.bind_some,decide_eq_true hp,Bool.not_true];rcases sqB_kinds o.sq with ⟨k0,hdx,hdy⟩ | ⟨k1,hdx,hdy⟩ | ⟨k2,_⟩
  ·obtain ⟨w1,w2,_,_⟩:=sd_wraps o.left_ o.top_ hx hy (dx:=0) (dy:=0) (by omega) (by omega);subst hdx;subst hdy;have e:=sblockof_ev w h d (left + x) (top + y);rw [if_pos (show BlOk w h d (left + x) (top + y) from ⟨hp,by omega,by omega⟩)] at e;have ev:sdG W H D w h d left top q large ex x y kd mode 0 0 l=blockv w h d (left + x) (top + y):=if_pos k0;rw [ev];refine Ev.step (fun k=>by simp only [spec_SquareDots.j0,w1,w2,Int.add_zero];rw [if_neg (show ¬ (false=true) by decide)]) (Ev.bind e ?_);simp only [k0,if_true];exact Ev.now _
  ·obtain ⟨w1,w2,w3,w4⟩:=sd_wraps o.left_ o.top_ hx hy hdx hdy;have n0:¬ kd=0:=by omega
   have e:=sblockof_ev w h d (left + x + dx) (top + y + dy);rw [if_pos (show BlOk w h d (left + x + dx) (top + y + dy) from ⟨hp,by omega,by omega⟩)] at e;have ej:=sjoined_ev (blockv w h d (left + x + dx) (top + y + dy)) (lbN l q large ex).1 (by rw [blockv_len];omega) (by omega);have ev:sdG W H D w h d left top q large ex x y kd mode dx dy l=jv (blockv w h d (left + x + dx) (top + y + dy)) (lbN l q large ex).1:=by unfold sdG;rw [if_neg n0,if_pos k1]
   rw [ev];refine Ev.step (fun k=>by simp only [spec_SquareDots.j0,w1,w2,w3,w4];rw [if_neg (show ¬ (false=true) by decide)]) (Ev.bind e ?_);simp only [n0,if_false];exact Ev.bind eb (Ev.bind ej (Ev.now _))
  ·exact absurd k2 c8
/-- A square's dots put into a picture, one by one. -/
def putF (w x y:Int) (d:List Int):Nat→Nat→List Int→List Int
 | 0,_,out=>out
 | t + 1,j,out=>putF w x y d t (j + 1) (out.set ((y + ((j / 8:Nat):Int)) * w + (x + ((j % 8:Nat):Int))).toNat (rd d (j:Int)))
theorem putF_len (w x y:Int) (d:List Int):∀ t j out,(putF w x y d t j out).length=out.length
 | 0,_,_=>rfl
 | t + 1,j,out=>by rw [putF,putF_len w x y d t,List.length_set]
theorem putF_in (w x y:Int) {d:List Int} (hd:∀ v ∈ d,0≤v∧v≤255):∀ t j out,(∀ v ∈ out,0≤v∧v≤255)→∀ v ∈ putF w x y d t j out,0≤v∧v≤255
 | 0,_,_,h=>h
 | t + 1,j,out,h=>putF_in w x y hd t (j + 1) _ (fun v hv=>by
  rcases List.mem_or_eq_of_mem_set hv with hm | rfl
  ·exact h _ hm
  ·unfold rd;rw [List.getD_eq_getElem?_getD];cases e:d[((j:Int)).toNat]? with
   | none=>exact ⟨Int.le_refl _,by decide⟩
   | some v=>exact hd v (List.mem_of_getElem? e))
/-- Where dot j of the square goes, as the loops tell it. -/
theorem put_place (w h x y:Int) (hw:1≤w∧w≤256) (hh:1≤h∧h≤256) (hx:0≤x∧x + 8≤w) (hy:0≤y∧y + 8≤h) (j:Nat) (hj:j < 64) (n:Int) (hn:n=w * h) :
  wrap64 (wrap64 (wrap64 (wrap64 (y + wrap64 (Int.tdiv (j:Int) 8)) * w) + x) + Int.tmod (j:Int) 8)=(y + ((j / 8:Nat):Int)) * w + (x + ((j % 8:Nat):Int))∧0≤(y + ((j / 8:Nat):Int)) * w + (x + ((j % 8:Nat):Int))∧(y + ((j / 8:Nat):Int)) * w + (x + ((j % 8:Nat):Int)) < n∧wrap64 ((j:Int) + 1)=((j + 1:Nat):Int):=by
 have sp:=spot (w:=w) (h:=h) (X:=x + ((j % 8:Nat):Int)) (Y:=y + ((j / 8:Nat):Int)) hw.1 (by omega) (by omega);have bd:=small_mul (w:=w) (h:=h) (a:=256) (b:=256) (by omega) hw.2 (by omega) hh.2;obtain ⟨Y0,eY⟩:∃ Y0,Y0=y + ((j / 8:Nat):Int):=⟨_,rfl⟩
 obtain ⟨X0,eX⟩:∃ X0,X0=x + ((j % 8:Nat):Int):=⟨_,rfl⟩
 rw [← eY,← eX] at sp ⊢;have w1:wrap64 (Int.tdiv (j:Int) 8)=((j / 8:Nat):Int):=by rw [Int.tdiv_eq_ediv_of_nonneg (by omega),wrap_id (by omega) (by omega)];omega
 have w0:Int.tmod (j:Int) 8=((j % 8:Nat):Int):=by rw [Int.tmod_eq_emod_of_nonneg (by omega)];omega
 have w2:wrap64 (y + ((j / 8:Nat):Int))=Y0:=by clear w1;rw [← eY];exact wrap_id (by omega) (by omega)
 have w3:wrap64 (Y0 * w)=Y0 * w:=by clear w1 w2;exact wrap_id (by omega) (by omega)
 have w4:wrap64 (Y0 * w + x)=Y0 * w + x:=by clear w1 w2 w3;exact wrap_id (by omega) (by omega)
 have w5:wrap64 (Y0 * w + x + ((j % 8:Nat):Int))=Y0 * w + X0:=by clear w1 w2 w3 w4;rw [show Y0 * w + x + ((j % 8:Nat):Int)=Y0 * w + X0 by omega];exact wrap_id (by omega) (by omega)
 have w6:wrap64 ((j:Int) + 1)=((j + 1:Nat):Int):=by clear w1 w2 w3 w4 w5;rw [wrap_id (by omega) (by omega)];omega
 rw [w1,w0,w2,w3,w4,w5];exact ⟨rfl,sp.2.1,by rw [hn];exact sp.2.2,w6⟩
theorem iput_now (w h x y:Int) (hw:1≤w∧w≤256) (hh:1≤h∧h≤256) (hx:0≤x∧x + 8≤w) (hy:0≤y∧y + 8≤h) (d:List Int) (hd:d.length=64) (db:∀ v ∈ d,0≤v∧v≤255) (D:ByteArray) (t:Nat) :
  ∀ (j:Nat) (out:List Int),j + t=64→(out.length:Int)=w * h→Ev (fun k=>impl_put.l0 k x y out d 64 (j:Int) w h D) (w,h,strOfNums (putF w x y d t j out)):=by
 induction t with
 | zero =>
  intro j out hj ho;refine Ev.step (f:=fun _=>some (w,h,strOfNums out)) (fun k=>?_) (Ev.now _);simp only [impl_put.l0];rw [if_neg (by omega)]
 | succ t ih =>
  intro j out hj ho;have hjd:j < d.length:=by omega
  have hv:=db (d[j]'hjd) (List.getElem_mem hjd);have g6:rd d (j:Int) % 256=rd d (j:Int):=by rw [rd_nat d j hjd];omega
  have g1:(j:Int) < 64:=by omega
  have g2:(0:Int)≤(j:Int):=by omega
  have g3:(j:Int) < (d.length:Int):=by omega
  have g4:j < 64:=by omega
  have g5:j + 1 + t=64:=by omega
  obtain ⟨p1,p2,p3,p4⟩:=put_place w h x y hw hh hx hy j g4 (out.length:Int) ho;refine Ev.step (fun k=>?_) (ih (j + 1) (out.set ((y + ((j / 8:Nat):Int)) * w + (x + ((j % 8:Nat):Int))).toNat (rd d (j:Int))) g5 (by rw [List.length_set];exact ho));simp only [impl_put.l0];rw [if_pos g1,if_pos g2,if_pos g3,p1,if_pos p2,if_pos p3,g6,p4]
theorem sput_now (w h x y:Int) (hw:1≤w∧w≤256) (hh:1≤h∧h≤256) (hx:0≤x∧x + 8≤w) (hy:0≤y∧y + 8≤h) (d:List Int) (hd:d.length=64) (db:∀ v ∈ d,0≤v∧v≤255) (D:ByteArray) (t:Nat) :
  ∀ (j:Nat) (out:List Int),j + t=64→(out.length:Int)=w * h→Ev (fun k=>spec_l16Put.l0 k x y d out (j:Int) w h D) (w,h,strOfNums (putF w x y d t j out)):=by
 induction t with
 | zero =>
  intro j out hj ho;refine Ev.step (f:=fun _=>some (w,h,strOfNums out)) (fun k=>?_) (Ev.now _);simp only [spec_l16Put.l0];rw [if_neg (by omega)]
 | succ t ih =>
  intro j out hj ho;have hjd:j < d.length:=by omega
  have hv:=db (d[j]'hjd) (List.getElem_mem hjd);have g6:rd d (j:Int) % 256=rd d (j:Int):=by rw [rd_nat d j hjd];omega
  have g1:(j:Int) < 64:=by omega
  have g2:(0:Int)≤(j:Int):=by omega
  have g3:(j:Int) < (d.length:Int):=by omega
  have g4:j < 64:=by omega
  have g5:j + 1 + t=64:=by omega
  obtain ⟨p1,p2,p3,p4⟩:=put_place w h x y hw hh hx hy j g4 (out.length:Int) ho;refine Ev.step (fun k=>?_) (ih (j + 1) (out.set ((y + ((j / 8:Nat):Int)) * w + (x + ((j % 8:Nat):Int))).toNat (rd d (j:Int))) g5 (by rw [List.length_set];exact ho));simp only [spec_l16Put.l0];rw [if_pos g1,if_pos g2,if_pos g3,p1,if_pos p2,if_pos p3,g6,p4]
theorem rd63_nat (xs:List S50) (i:Nat) (h:i < xs.length):rd_T50 xs (i:Int)=xs[i]:=by
 unfold rd_T50;rw [Int.toNat_natCast,List.getD_eq_getElem?_getD,List.getElem?_eq_getElem h]
 rfl
/-- The tile behind t squares from square i on. -/
def tileF (sw sh:Int) (sd:ByteArray) (ox oy q:Int) (large ex:Bool) (w h:Int) (m:Nat) (xs:List S50):Nat→Nat→List Int→List Int
 | 0,_,out=>out
 | t + 1,i,out=>tileF sw sh sd ox oy q large ex w h m xs t (i + 1) (putF w (((i % m:Nat):Int) * 8) (((i / m:Nat):Int) * 8) (sdG w h (strOfNums out) sw sh sd ox oy q large ex (((i % m:Nat):Int) * 8) (((i / m:Nat):Int) * 8) (rd_T50 xs (i:Int)).f0 (rd_T50 xs (i:Int)).f1 (rd_T50 xs (i:Int)).f2 (rd_T50 xs (i:Int)).f3 (rd_T50 xs (i:Int)).f4) 64 0 out)
/-- The squares of a tile are right, and fit its condition. -/
def SqsOk (key:Bool) (xs:List S50):Prop:=∀ i:Nat,i < xs.length→sqB (rd_T50 xs (i:Int)).f0 (rd_T50 xs (i:Int)).f1 (rd_T50 xs (i:Int)).f2 (rd_T50 xs (i:Int)).f3 (rd_T50 xs (i:Int)).f4=true∧(key=true→(rd_T50 xs (i:Int)).f0=2)
/-- Tiles of guessed squares alone do not ask for another picture. -/
theorem tileF_key {xs:List S50} (hx:∀ i:Nat,i < xs.length→(rd_T50 xs (i:Int)).f0=2) (sw sh:Int) (sd:ByteArray) (ox oy sw' sh':Int) (sd':ByteArray) (ox' oy' q:Int) (large ex:Bool) (w h:Int) (m:Nat) :
  ∀ (t i:Nat) (out:List Int),i + t≤xs.length→tileF sw sh sd ox oy q large ex w h m xs t i out=tileF sw' sh' sd' ox' oy' q large ex w h m xs t i out
 | 0,_,_,_=>rfl
 | t + 1,i,out,hi=>by
  have h2:=hx i (by omega);rw [tileF,tileF];have e:∀ (a b:Int) (c:ByteArray) (d f:Int),sdG w h (strOfNums out) a b c d f q large ex (((i % m:Nat):Int) * 8) (((i / m:Nat):Int) * 8) (rd_T50 xs (i:Int)).f0 (rd_T50 xs (i:Int)).f1 (rd_T50 xs (i:Int)).f2 (rd_T50 xs (i:Int)).f3 (rd_T50 xs (i:Int)).f4=jv (guessR (rd_T50 xs (i:Int)).f1 (edgesV w h (strOfNums out) (((i % m:Nat):Int) * 8) (((i / m:Nat):Int) * 8)).1 (edgesV w h (strOfNums out) (((i % m:Nat):Int) * 8) (((i / m:Nat):Int) * 8)).2.1 (edgesV w h (strOfNums out) (((i % m:Nat):Int) * 8) (((i / m:Nat):Int) * 8)).2.2.1) (lbN (rd_T50 xs (i:Int)).f4 q large ex).1:=by
   intro a b c d f;unfold sdG;rw [if_neg (by omega),if_neg (by omega)]
  rw [e,e];exact tileF_key hx sw sh sd ox oy sw' sh' sd' ox' oy' q large ex w h m t (i + 1) _ (by omega)
theorem tileW {w:Int} (hw:w=8∨w=16):∃ m:Nat,(m=1∨m=2)∧w=8 * (m:Int)∧wrap64 (Int.tdiv w 8)=(m:Int):=by
 rcases hw with rfl | rfl
 ·exact ⟨1,.inl rfl,by omega,by decide +kernel⟩
 ·exact ⟨2,.inr rfl,by omega,by decide +kernel⟩
/-- Square i's place, as the loops tell it, and what stands there. -/
theorem tile_at {w h:Int} (hh:h=8∨h=16) {m:Nat} (hm:(m=1∨m=2)∧w=8 * (m:Int)) {n:Nat} (hn:(n:Int)=(m:Int) * (h / 8)) {i:Nat} (hi:i < n) {xs:List S50} (hl:xs.length=n) {key:Bool} (hx:SqsOk key xs) {sw sh:Int} {sd:ByteArray} (hs:key=false→PicR sw sh sd) {ox oy q:Int} (hox:0≤ox∧ox≤256) (hoy:0≤oy∧oy≤256) {large ex:Bool} (hc:condB q large ex=true) {out:List Int} (ho:(out.length:Int)=w * h) :
  SdOk w h (strOfNums out) sw sh sd ox oy key q large ex (((i % m:Nat):Int) * 8) (((i / m:Nat):Int) * 8) (rd_T50 xs (i:Int)).f0 (rd_T50 xs (i:Int)).f1 (rd_T50 xs (i:Int)).f2 (rd_T50 xs (i:Int)).f3 (rd_T50 xs (i:Int)).f4 ∧
  (0≤((i % m:Nat):Int) * 8∧((i % m:Nat):Int) * 8 + 8≤w)∧(0≤((i / m:Nat):Int) * 8∧((i / m:Nat):Int) * 8 + 8≤h) ∧
  Int.tmod (i:Int) (m:Int)=((i % m:Nat):Int)∧wrap64 (Int.tdiv (i:Int) (m:Int))=((i / m:Nat):Int)∧wrap64 (((i % m:Nat):Int) * 8)=((i % m:Nat):Int) * 8∧wrap64 (((i / m:Nat):Int) * 8)=((i / m:Nat):Int) * 8∧wrap64 ((i:Int) + 1)=((i + 1:Nat):Int):=by
 obtain ⟨hm1,hm2⟩:=hm;have hxy:(0≤((i % m:Nat):Int) * 8∧((i % m:Nat):Int) * 8 + 8≤w)∧(0≤((i / m:Nat):Int) * 8∧((i / m:Nat):Int) * 8 + 8≤h):=by rcases hm1 with rfl | rfl <;> rcases hh with rfl | rfl <;> omega
 have hi4:i < 4:=by rcases hm1 with rfl | rfl <;> rcases hh with rfl | rfl <;> omega
 have hx':=hx i (by omega);have m0:(0:Int)≤(m:Int):=by omega
 refine ⟨⟨⟨by omega,by omega,by rw [strOfNums_size];exact ho⟩,⟨by omega,by omega,by omega,by omega⟩,hox,hoy,hx'.1,hc,hx'.2,fun hk=>hs ?_⟩,hxy.1,hxy.2,?_,?_,?_,?_,?_⟩
 ·cases hkey:key with
  | false=>rfl
  | true=>exact absurd (hx'.2 hkey) hk
 ·rw [Int.tmod_eq_emod_of_nonneg (by omega)];exact (Int.natCast_emod i m).symm
 ·rw [Int.tdiv_eq_ediv_of_nonneg (by omega),← Int.natCast_ediv];exact wrap_id (by omega) (by have:=Nat.div_le_self i m;omega)
 ·exact wrap_id (by omega) (by omega)
 ·exact wrap_id (by omega) (by omega)
 ·rw [wrap_id (by omega) (by omega)];omega
theorem itile_loop (w h:Int) (hw:w=8∨w=16) (hh:h=8∨h=16) (m:Nat) (hm:(m=1∨m=2)∧w=8 * (m:Int)∧wrap64 (Int.tdiv w 8)=(m:Int)) (n:Nat) (hn:(n:Int)=(m:Int) * (h / 8)) (xs:List S50) (hl:xs.length=n) (key:Bool) (hx:SqsOk key xs) (sw sh:Int) (sd:ByteArray) (hs:key=false→PicR sw sh sd) (ox oy L T q:Int) (hox:0≤ox∧ox≤256) (hoy:0≤oy∧oy≤256) (large ex:Bool) (hc:condB q large ex=true) (t:Nat) :
  ∀ (i:Nat) (out:List Int),i + t=n→(out.length:Int)=w * h→(∀ v ∈ out,0≤v∧v≤255)→Ev (fun k=>impl_TileBack.l0 k ox oy xs (n:Int) (i:Int) sw sh sd L T w h key q large ex w h (strOfNums out)) (w,h,strOfNums (tileF sw sh sd ox oy q large ex w h m xs t i out),true):=by
 induction t with
 | zero =>
  intro i out hi ho hb;refine Ev.step (f:=fun _=>some (w,h,strOfNums out,true)) (fun k=>?_) (Ev.now _);simp only [impl_TileBack.l0];rw [if_neg (by omega)]
 | succ t ih =>
  intro i out hi ho hb;have hin:i < n:=by omega
  have g1:(i:Int) < (n:Int):=by omega
  have g2:(0:Int)≤(i:Int):=by omega
  have g3:(i:Int) < (xs.length:Int):=by omega
  have g5:i + 1 + t=n:=by omega
  have gw:1≤w∧w≤256:=by omega
  have gh:1≤h∧h≤256:=by omega
  have n0:¬ (m:Int)=0:=by have:=hm.1;omega
  obtain ⟨o,hX,hY,t1,t2,t3,t4,t5⟩:=tile_at hh ⟨hm.1,hm.2.1⟩ hn hin hl hx hs hox hoy hc ho;have es:=isd_now o;obtain ⟨dl,db⟩:=sdG_good o;have ep:=iput_now w h _ _ gw gh hX hY _ dl db (strOfNums out) 64 0 out rfl ho;have er:=ih (i + 1) _ g5 (by rw [putF_len];exact ho) (putF_in w (((i % m:Nat):Int) * 8) (((i / m:Nat):Int) * 8) db 64 0 out hb);rw [tileF];refine Ev.step (fun k=>by simp only [impl_TileBack.l0,hm.2.2];rw [if_pos g1,if_pos g2,if_pos g3,if_neg n0,t1,t2,t3,t4,t5]) (Ev.bind es ?_);simp only [if_true];refine Ev.bind (a:=(w,h,strOfNums (putF w (((i % m:Nat):Int) * 8) (((i / m:Nat):Int) * 8) (sdG w h (strOfNums out) sw sh sd ox oy q large ex (((i % m:Nat):Int) * 8) (((i / m:Nat):Int) * 8) (rd_T50 xs (i:Int)).f0 (rd_T50 xs (i:Int)).f1 (rd_T50 xs (i:Int)).f2 (rd_T50 xs (i:Int)).f3 (rd_T50 xs (i:Int)).f4) 64 0 out))) ?_ er;unfold impl_put.f impl_dots.f;simp only [Option.bind_some,bytesOf_strOfNums hb,dl];exact ep
theorem stile_loop (w h:Int) (hw:w=8∨w=16) (hh:h=8∨h=16) (m:Nat) (hm:(m=1∨m=2)∧w=8 * (m:Int)∧wrap64 (Int.tdiv w 8)=(m:Int)) (n:Nat) (hn:(n:Int)=(m:Int) * (h / 8)) (xs:List S50) (hl:xs.length=n) (key:Bool) (hx:SqsOk key xs) (sw sh:Int) (sd:ByteArray) (hs:key=false→PicR sw sh sd) (ox oy L T q:Int) (hox:0≤ox∧ox≤256) (hoy:0≤oy∧oy≤256) (large ex:Bool) (hc:condB q large ex=true) (t:Nat) :
  ∀ (i:Nat) (out:List Int),i + t=n→(out.length:Int)=w * h→(∀ v ∈ out,0≤v∧v≤255)→Ev (fun k=>spec_TileBack.l0 k xs ox oy (i:Int) sw sh sd L T w h key q large ex w h (strOfNums out)) (w,h,strOfNums (tileF sw sh sd ox oy q large ex w h m xs t i out),true):=by
 induction t with
 | zero =>
  intro i out hi ho hb;refine Ev.step (f:=fun _=>some (w,h,strOfNums out,true)) (fun k=>?_) (Ev.now _);simp only [spec_TileBack.l0];rw [if_neg (by omega)]
 | succ t ih =>
  intro i out hi ho hb;have hin:i < n:=by omega
  have g2:(0:Int)≤(i:Int):=by omega
  have g3:(i:Int) < (xs.length:Int):=by omega
  have g5:i + 1 + t=n:=by omega
  have gw:1≤w∧w≤256:=by omega
  have gh:1≤h∧h≤256:=by omega
  have n0:¬ (m:Int)=0:=by have:=hm.1;omega
  obtain ⟨o,hX,hY,t1,t2,t3,t4,t5⟩:=tile_at hh ⟨hm.1,hm.2.1⟩ hn hin hl hx hs hox hoy hc ho;rw [Int.mul_comm] at t3 t4;have t6:=t3.trans (Int.mul_comm _ _);have t7:=t4.trans (Int.mul_comm _ _);have es:=ssd_now o;obtain ⟨dl,db⟩:=sdG_good o;have ep:=sput_now w h _ _ gw gh hX hY _ dl db (strOfNums out) 64 0 out rfl ho;have er:=ih (i + 1) _ g5 (by rw [putF_len];exact ho) (putF_in w (((i % m:Nat):Int) * 8) (((i / m:Nat):Int) * 8) db 64 0 out hb);rw [tileF];refine Ev.step (fun k=>by simp only [spec_TileBack.l0,hm.2.2];rw [if_pos g3,if_neg n0,if_pos g2,t1,t2,t6,t7,t5]) (Ev.bind es ?_);refine Ev.bind (a:=(w,h,strOfNums (putF w (((i % m:Nat):Int) * 8) (((i / m:Nat):Int) * 8) (sdG w h (strOfNums out) sw sh sd ox oy q large ex (((i % m:Nat):Int) * 8) (((i / m:Nat):Int) * 8) (rd_T50 xs (i:Int)).f0 (rd_T50 xs (i:Int)).f1 (rd_T50 xs (i:Int)).f2 (rd_T50 xs (i:Int)).f3 (rd_T50 xs (i:Int)).f4) 64 0 out))) ?_ er;unfold spec_l16Put.f;rw [bytesOf_strOfNums hb];exact ep
/-- The tile that comes of right arguments. -/
noncomputable def tileV (W:Int) (rf:ByteArray) (L T w h q:Int) (large ex:Bool) (m n:Nat) (xs:List S50):List Int :=
 tileF w h (strOfNums (cutF W rf L w h.toNat T [])) 0 0 q large ex w h m xs n 0 (List.replicate (w * h).toNat 128)
structure TbOk (W H:Int) (rf:ByteArray) (L T w h:Int) (key:Bool) (q:Int) (large ex:Bool) (m n:Nat) (xs:List S50):Prop where
 pic:PicR W H rf
 hold:HoldR W H L T w h
 hw:w=8∨w=16
 hh:h=8∨h=16
 hm:(m=1∨m=2)∧w=8 * (m:Int)∧wrap64 (Int.tdiv w 8)=(m:Int)
 hn:(n:Int)=(m:Int) * (h / 8)
 hn0:wrap64 ((wrap64 (Int.tdiv w 8)) * (wrap64 (Int.tdiv h 8)))=(n:Int)
 hl:xs.length=n
 hx:SqsOk key xs
 hc:condB q large ex=true
theorem grey_start {W H:Int} {rf:ByteArray} {L T w h:Int} {key:Bool} {q:Int} {large ex:Bool} {m n:Nat} {xs:List S50} (o:TbOk W H rf L T w h key q large ex m n xs):((List.replicate (w * h).toNat (128:Int)).length:Int)=w * h∧∀ v ∈ List.replicate (w * h).toNat (128:Int),0≤v∧v≤255:=by
 have hwh:0≤w * h:=by rcases o.hw with e | e <;> rcases o.hh with f | f <;> rw [e,f] <;> decide
 exact ⟨by rw [List.length_replicate];omega,fun v hv=>by have:=List.eq_of_mem_replicate hv;omega⟩
theorem itb_ev {W H:Int} {rf:ByteArray} {L T w h:Int} {key:Bool} {q:Int} {large ex:Bool} {m n:Nat} {xs:List S50} (o:TbOk W H rf L T w h key q large ex m n xs) :
  Ev (fun k=>impl_TileBack.f k W H rf L T w h key q large ex true xs) (w,h,strOfNums (tileV W rf L T w h q large ex m n xs),true):=by
 have hr:=o.pic;have hH:=o.hold;have hr':=hr;unfold PicR at hr';have hH':=hH;unfold HoldR at hH';have hcp:=cut_pic hr hH;have hw:=o.hw;have hh:=o.hh;have tw:impl_isTile.f w=some true:=by rcases hw with rfl | rfl <;> decide +kernel
 have th:impl_isTile.f h=some true:=by rcases hh with rfl | rfl <;> decide +kernel
 have gL:0≤L∧L≤256:=by omega
 have gT:0≤T∧T≤256:=by omega
 have hgrey:=grey_ev w h;rw [if_pos ⟨by omega,by omega⟩] at hgrey;obtain ⟨g0,g1⟩:=grey_start o;have hcut:=cutof_ev W H rf L T w h;unfold cutV at hcut;rw [if_pos ⟨hr,hH⟩] at hcut;have hlen:(xs.length:Int)=(n:Int):=by rw [o.hl]
 have H':∀ (sw sh:Int) (sd:ByteArray),(key=false→PicR sw sh sd)→Ev (fun k=>impl_TileBack.j1 k xs 0 0 sw sh sd L T w h key q large ex) (w,h,strOfNums (tileF sw sh sd 0 0 q large ex w h m xs n 0 (List.replicate (w * h).toNat 128)),true):=by
  intro sw sh sd hs;have e:=itile_loop w h hw hh m o.hm n o.hn xs o.hl key o.hx sw sh sd hs 0 0 L T q (by omega) (by omega) large ex o.hc n 0 _ (by omega) g0 g1;refine Ev.step (fun k=>by simp only [impl_TileBack.j1];rfl) (Ev.bind hgrey ?_);rw [hlen];exact e
 unfold impl_TileBack.f;simp only [tw,th,within_eq,gL,gT,decide_true,cond_val,o.hc,Option.bind_some,if_true,hlen,o.hn0,and_self];cases hk:key with
 | true =>
  subst hk;simp only [if_true];have e:=H' W H rf (fun hk=>by cases hk);rw [tileF_key (fun i hi=>(o.hx i hi).2 rfl) W H rf 0 0 w h (strOfNums (cutF W rf L w h.toNat T [])) 0 0 q large ex w h m n 0 _ (by have:=o.hl;omega)] at e;exact Ev.step (fun k=>by simp only [impl_TileBack.j0,Bool.false_eq_true,if_false,if_true]) e
 | false =>
  subst hk;simp only [Bool.false_eq_true,if_false,ipic_some,hr,decide_true,Option.bind_some,if_true,holds_eq W H rf L T w h hr,hH,Bool.not_true];refine Ev.step (fun k=>by simp only [impl_TileBack.j0,Bool.false_eq_true,if_false,if_true];rfl) (Ev.bind hcut ?_);exact H' w h (strOfNums (cutF W rf L w h.toNat T [])) (fun _=>hcp)
theorem l16ok_ev {key:Bool} {q:Int} {large ex:Bool} (hc:condB q large ex=true) {xs:List S50} (hx:SqsOk key xs) (h1:1≤xs.length) (h4:xs.length≤64):Ev (fun k=>spec_l16Ok.f k xs key q large ex) true:=by
 have H:∀ i,i≤xs.length→Ev (fun k=>spec_l16Ok.l0 k xs (i:Int) key q large ex) true:=by
  refine down xs.length ?_ ?_
  ·refine Ev.step (f:=fun _=>some true) (fun k=>?_) (Ev.now _);simp only [spec_l16Ok.l0];rw [if_neg (by omega)]
  ·intro i hi h;obtain ⟨hs,h2⟩:=hx i hi;have e:=ssqok_ev (rd_T50 xs (i:Int)).f0 (rd_T50 xs (i:Int)).f1 (rd_T50 xs (i:Int)).f2 (rd_T50 xs (i:Int)).f3 (rd_T50 xs (i:Int)).f4 (by have:=sqB_len hs;omega);rw [hs] at e;refine Ev.step (fun k=>by simp only [spec_l16Ok.l0];rw [if_pos (by omega),if_pos (by omega),show wrap64 ((i:Int) + 1)=((i + 1:Nat):Int) by rw [wrap_id (by omega) (by omega)];omega]) (Ev.bind e ?_);simp only [if_true];cases hk:key with
   | true=>subst hk;simp only [if_true,h2 rfl];exact h
   | false=>subst hk;simp only [Bool.false_eq_true,if_false];exact h
 unfold spec_l16Ok.f;simp only [scond_val,Option.bind_some,hc,if_true,in_eq,show (1:Int)≤(xs.length:Int)∧(xs.length:Int)≤64 from by omega,decide_true,and_self,Bool.not_true];exact Ev.step (fun k=>by simp only [spec_l16Ok.j0,Bool.false_eq_true,if_false];rfl) (H 0 (by omega))
theorem stb_ev {W H:Int} {rf:ByteArray} {L T w h:Int} {key:Bool} {q:Int} {large ex:Bool} {m n:Nat} {xs:List S50} (o:TbOk W H rf L T w h key q large ex m n xs) :
  Ev (fun k=>spec_TileBack.f k W H rf L T w h key q large ex true xs) (w,h,strOfNums (tileV W rf L T w h q large ex m n xs),true):=by
 have hr:=o.pic;have hH:=o.hold;have hr':=hr;unfold PicR at hr';have hH':=hH;unfold HoldR at hH';have hcp:=cut_pic hr hH;have hw:=o.hw;have hh:=o.hh;have tw:spec_l16Side.f w=some true:=by rcases hw with rfl | rfl <;> decide +kernel
 have th:spec_l16Side.f h=some true:=by rcases hh with rfl | rfl <;> decide +kernel
 have gL:0≤L∧L≤256:=by omega
 have gT:0≤T∧T≤256:=by omega
 have hgrey:=sgrey_ev w h;rw [if_pos ⟨by omega,by omega⟩] at hgrey;obtain ⟨g0,g1⟩:=grey_start o;have hcut:=scutof_ev W H rf L T w h;unfold cutV at hcut;rw [if_pos ⟨hr,hH⟩] at hcut;have hlen:(xs.length:Int)=(n:Int):=by rw [o.hl]
 have hn4:1≤xs.length∧xs.length≤64:=by
  have:=o.hl;have:=o.hn;rcases o.hm.1 with e | e <;> rcases hh with f | f <;> subst e <;> subst f <;> omega
 have eok:=l16ok_ev o.hc o.hx hn4.1 hn4.2;have H':∀ (ox oy sw sh:Int) (sd:ByteArray),(0≤ox∧ox≤256)→(0≤oy∧oy≤256)→(key=false→PicR sw sh sd)→Ev (fun k=>spec_TileBack.j2 k xs ox oy sw sh sd L T w h key q large ex) (w,h,strOfNums (tileF sw sh sd ox oy q large ex w h m xs n 0 (List.replicate (w * h).toNat 128)),true):=by
  intro ox oy sw sh sd hox hoy hs;have e:=stile_loop w h hw hh m o.hm n o.hn xs o.hl key o.hx sw sh sd hs ox oy L T q hox hoy large ex o.hc n 0 _ (by omega) g0 g1;refine Ev.step (fun k=>by simp only [spec_TileBack.j2];rfl) (Ev.bind hgrey ?_);exact e
 unfold spec_TileBack.f;simp only [tw,th,in_eq,gL,gT,decide_true,Option.bind_some,if_true,and_self];refine Ev.bind eok ?_;simp only [if_true,hlen,o.hn0];cases hk:key with
 | true =>
  subst hk;simp only [if_true];have e:=H' L T W H rf gL gT (fun hk=>by cases hk);rw [tileF_key (fun i hi=>(o.hx i hi).2 rfl) W H rf L T w h (strOfNums (cutF W rf L w h.toNat T [])) 0 0 q large ex w h m n 0 _ (by have:=o.hl;omega)] at e;refine Ev.step (fun k=>by simp only [spec_TileBack.j0,Bool.false_eq_true,if_false,if_true];rfl) (Ev.step (fun k=>by simp only [spec_TileBack.j1,Bool.false_eq_true,if_false]) e)
 | false =>
  subst hk;simp only [Bool.false_eq_true,if_false,sholds_eq,Option.bind_some,show PicR W H rf∧HoldR W H L T w h from ⟨hr,hH⟩,decide_true,Bool.not_true,and_self];refine Ev.step (fun k=>by simp only [spec_TileBack.j0,Bool.false_eq_true,if_false];rfl) (Ev.step (fun k=>by simp only [spec_TileBack.j1,if_true];rfl) (Ev.bind hcut ?_));exact H' 0 0 w h (strOfNums (cutF W rf L w h.toNat T [])) (by omega) (by omega) (fun _=>hcp)
theorem and_le (x:Int) (m:Nat) (hm:m < 9223372036854775808):0≤Go.bits .and .i64 x (m:Int)∧Go.bits .and .i64 x (m:Int)≤(m:Int):=by
 have h:(BitVec.ofInt 64 x &&& BitVec.ofInt 64 (m:Int)).toNat≤m:=by
  rw [BitVec.toNat_and];refine Nat.le_trans Nat.and_le_right ?_;rw [BitVec.ofInt_natCast,BitVec.toNat_ofNat];exact Nat.mod_le _ _
 have e:Go.bits .and .i64 x (m:Int)=IntKind.i64.wrap (((BitVec.ofInt 64 x &&& BitVec.ofInt 64 (m:Int)).toNat:Nat):Int):=rfl;rw [e,IntKind.wrap_i64];omega
theorem byte_at (b:List Int) (hb:b.length≤140737488351232) (i h:Int) (h0:0≤i) (h1:i≤(b.length:Int)) :
  ∃ x i' h',spec_l01Byte.f b i h=some (x,i',h')∧0≤x∧x≤255∧0≤i'∧i'≤(b.length:Int):=by
 unfold spec_l01Byte.f;by_cases c:i < (b.length:Int)
 ·rw [if_pos c,if_pos h0];exact ⟨_,_,_,rfl,(and_le _ 255 (by decide)).1,(and_le _ 255 (by decide)).2,by rw [wrap_id (by omega) (by omega)];omega,by rw [wrap_id (by omega) (by omega)];omega⟩
 ·rw [if_neg c];exact ⟨_,_,_,rfl,(and_le _ 255 (by decide)).1,(and_le _ 255 (by decide)).2,h0,h1⟩
theorem below_at (b:List Int) (hb:b.length≤140737488351232) (i h n:Int) (h0:0≤i) (h1:i≤(b.length:Int)) (hn:0 < n) :
  ∃ x i' h',spec_l01Below.f b i h n=some (x,i',h')∧0≤x∧x < n∧0≤i'∧i'≤(b.length:Int):=by
 unfold spec_l01Below.f;rw [if_neg (by omega)];obtain ⟨x,i1,s1,e1,x0,x1,p1,q1⟩:=byte_at b hb i h h0 h1;by_cases c:n≤256
 ·rw [if_pos c,e1,Option.bind_some,if_neg (by omega)];exact ⟨_,_,_,rfl,by simp only [Int.tmod_eq_emod_of_nonneg x0];exact Int.emod_nonneg _ (by omega),by simp only [Int.tmod_eq_emod_of_nonneg x0];exact Int.emod_lt_of_pos _ hn,p1,q1⟩
 ·obtain ⟨y,i2,s2,e2,y0,y1,p2,q2⟩:=byte_at b hb i1 s1 p1 q1;obtain ⟨z,i3,s3,e3,z0,z1,p3,q3⟩:=byte_at b hb i2 s2 p2 q2;obtain ⟨w,i4,s4,e4,w0,w1,p4,q4⟩:=byte_at b hb i3 s3 p3 q3;rw [if_neg c,e1,Option.bind_some];simp only [];rw [e2,Option.bind_some];simp only [];rw [e3,Option.bind_some];simp only [];rw [e4,Option.bind_some,if_neg (by omega)];have hs:wrap64 (wrap64 (wrap64 (wrap64 (x * 16777216) + wrap64 (y * 65536)) + wrap64 (z * 256)) + w)=x * 16777216 + y * 65536 + z * 256 + w:=by
   rw [wrap_id (x:=x * 16777216) (by omega) (by omega),wrap_id (x:=y * 65536) (by omega) (by omega),wrap_id (x:=z * 256) (by omega) (by omega),wrap_id (x:=x * 16777216 + y * 65536) (by omega) (by omega),wrap_id (x:=x * 16777216 + y * 65536 + z * 256) (by omega) (by omega),wrap_id (by omega) (by omega)]
  refine ⟨_,_,_,rfl,?_,?_,p4,q4⟩
  ·simp only [hs];rw [Int.tmod_eq_emod_of_nonneg (by omega)];exact Int.emod_nonneg _ (by omega)
  ·simp only [hs];rw [Int.tmod_eq_emod_of_nonneg (by omega)];exact Int.emod_lt_of_pos _ hn
theorem new_loop (l:List Int) (hl:l.length≤140737488351232) (d:Nat):∀ h i:Int,0≤i→(l.length:Int) - i=d→∃ h',Ev (fun k=>spec_l01New.l0 k l h i) (l,0,h'):=by
 induction d with
 | zero =>
  intro h i h0 hd;exact ⟨h,Ev.step (f:=fun _=>some (l,0,h)) (fun k=>by simp only [spec_l01New.l0];rw [if_neg (by omega)]) (Ev.now _)⟩
 | succ d ih =>
  intro h i h0 hd;by_cases c:i < 4000
  ·obtain ⟨h',e⟩:=ih (Go.bits .and .i64 (wrap64 ((wrap64 ((wrap64 (h * 131)) + (wrap64 (rd l i)))) + 7)) 1073741823) (i + 1) (by omega) (by omega);refine ⟨h',Ev.step (fun k=>?_) e⟩;simp only [spec_l01New.l0];rw [if_pos (by omega),if_pos c,if_pos h0,wrap_id (x:=i + 1) (by omega) (by omega)]
  ·exact ⟨h,Ev.step (f:=fun _=>some (l,0,h)) (fun k=>by simp only [spec_l01New.l0];rw [if_pos (by omega),if_neg c]) (Ev.now _)⟩
theorem new_ev (l:List Int) (hl:l.length≤140737488351232):∃ h,Ev (fun k=>spec_l01New.f k l) (l,0,h):=by
 obtain ⟨h,e⟩:=new_loop l hl l.length (wrap64 (94701 + (l.length:Int))) 0 (by omega) (by omega);exact ⟨h,e⟩
theorem places_loop (b:List Int) (hb:b.length≤140737488351232) (d:Nat):∀ (out:List Int) (j i h:Int),0≤j→12 - j=(d:Int)→(out.length:Int)=j→(∀ x ∈ out,0≤x∧x < 10000)→0≤i→i≤(b.length:Int) →
  ∃ p,Ev (fun k=>spec_DrawPlaces.l0 k out j b i h) p∧p.length=12∧∀ x ∈ p,0≤x∧x < 10000:=by
 induction d with
 | zero =>
  intro out j i h hj hd ho hx h0 h1;exact ⟨out,Ev.step (f:=fun _=>some out) (fun k=>by simp only [spec_DrawPlaces.l0];rw [if_neg (by omega)]) (Ev.now _),by omega,hx⟩
 | succ d ih =>
  intro out j i h hj hd ho hx h0 h1;obtain ⟨x,i',h',e,x0,x1,p,q⟩:=below_at b hb i h 10000 h0 h1 (by omega);obtain ⟨r,er,hr⟩:=ih (out ++ [x]) (j + 1) i' h' (by omega) (by omega) (by simp;omega) (by
   intro y hy;rcases List.mem_append.1 hy with hy | hy
   ·exact hx y hy
   ·simp at hy;subst hy;exact ⟨x0,x1⟩) p q
  refine ⟨r,Ev.step (fun k=>?_) er,hr⟩;simp only [spec_DrawPlaces.l0];rw [if_pos (by omega),e,Option.bind_some,if_pos (by omega),wrap_id (x:=j + 1) (by omega) (by omega)]
theorem places_ev (l:List Int) (hl:l.length≤140737488351232):∃ p,Ev (fun k=>spec_DrawPlaces.f k l) p∧p.length=12∧∀ x ∈ p,0≤x∧x < 10000:=by
 obtain ⟨h,e⟩:=new_ev l hl;obtain ⟨x,i',h',e1,x0,x1,p0,p1⟩:=byte_at l hl 0 h (by omega) (by omega);obtain ⟨p,ep,hp⟩:=places_loop l hl 12 [] 0 i' h' (by omega) (by omega) rfl (by simp) p0 p1;refine ⟨p,?_,hp⟩;unfold spec_DrawPlaces.f;refine Ev.bind e ?_;simp only [e1,Option.bind_some];exact ep
theorem once_at (b:List Int) (hb:b.length≤140737488351232) (i h n:Int) (h0:0≤i) (h1:i≤(b.length:Int)) (hn:0 < n) :
  ∃ x i' h',spec_l01Once.f b i h n=some (x,i',h')∧0≤i'∧i'≤(b.length:Int):=by
 obtain ⟨x,i',h',e,_,_,p,q⟩:=below_at b hb i h n h0 h1 hn;exact ⟨_,_,_,by unfold spec_l01Once.f;rw [e];rfl,p,q⟩
def LevL (n:Nat) (l:List Int):Prop:=l.length=n∧∀ x ∈ l,-5000≤x∧x≤5000
theorem levL_set {n:Nat} {l:List Int} (h:LevL n l) (i:Nat) {v:Int} (hv:-5000≤v∧v≤5000):LevL n (l.set i v) :=
 ⟨by rw [List.length_set];exact h.1,fun x hx=>by
  rcases List.mem_or_eq_of_mem_set hx with h1 | h1
  ·exact h.2 x h1
  ·subst h1;exact hv⟩
theorem lev_j2 (b:List Int) (hb:b.length≤140737488351232) (n:Nat) (hn:n=16∨n=64) (out:List Int) (ho:LevL n out) (i x:Int) (hx:0≤x) (hx1:x < (n:Int)) (p h:Int) (h0:0≤p) (h1:p≤(b.length:Int))
  (hh:∀ out':List Int,LevL n out'→∀ p' h':Int,0≤p'→p'≤(b.length:Int)→∃ r p'' h'',Ev (fun k=>spec_l11Levels.l0 k (n:Int) out' (wrap64 (i + 1)) b p' h') (r,p'',h'')∧LevL n r∧0≤p''∧p''≤(b.length:Int)) :
  ∃ r p'' h'',Ev (fun k=>spec_l11Levels.j2 k (n:Int) out i x b p h) (r,p'',h'')∧LevL n r∧0≤p''∧p''≤(b.length:Int):=by
 obtain ⟨y,p1,h1',e1,y0,y1,a0,a1⟩:=below_at b hb p h 21 h0 h1 (by omega);have wy:-5000≤wrap64 (y - 10)∧wrap64 (y - 10)≤5000:=by rw [wrap_id (by omega) (by omega)];omega
 obtain ⟨z,p2,h2',e2,b0,b1⟩:=once_at b hb p1 h1' 6 a0 a1 (by omega);cases z with
 | true =>
  obtain ⟨u,p3,h3',e3,u0,u1,c0,c1⟩:=below_at b hb p2 h2' 10001 b0 b1 (by omega);have wu:-5000≤wrap64 (u - 5000)∧wrap64 (u - 5000)≤5000:=by rw [wrap_id (by omega) (by omega)];omega
  obtain ⟨r,p'',h'',er,lr⟩:=hh ((out.set x.toNat (wrap64 (y - 10))).set x.toNat (wrap64 (u - 5000))) (levL_set (levL_set ho _ wy) _ wu) p3 h3' c0 c1;refine ⟨r,p'',h'',Ev.step (fun k=>?_) er,lr⟩;simp only [spec_l11Levels.j2];rw [e1,Option.bind_some,if_pos hx,if_pos (by have:=ho.1;omega),Option.bind_some,e2,Option.bind_some,if_pos rfl,e3,Option.bind_some]
 | false =>
  obtain ⟨r,p'',h'',er,lr⟩:=hh (out.set x.toNat (wrap64 (y - 10))) (levL_set ho _ wy) p2 h2' b0 b1;refine ⟨r,p'',h'',Ev.step (fun k=>?_) er,lr⟩;simp only [spec_l11Levels.j2];rw [e1,Option.bind_some,if_pos hx,if_pos (by have:=ho.1;omega),Option.bind_some,e2,Option.bind_some,if_neg (by simp)]
theorem lev_l0 (b:List Int) (hb:b.length≤140737488351232) (n:Nat) (hn:n=16∨n=64) (d:Nat):∀ (i:Int),0≤i→7 - i≤(d:Int)→i≤7→∀ out':List Int,LevL n out'→∀ p' h':Int,0≤p'→p'≤(b.length:Int)→∃ r p'' h'',Ev (fun k=>spec_l11Levels.l0 k (n:Int) out' i b p' h') (r,p'',h'')∧LevL n r∧0≤p''∧p''≤(b.length:Int):=by
 induction d with
 | zero =>
  intro i hi hd hi7 out ho p h h0 h1;obtain ⟨x,p1,h1',e1,x0,x1,a0,a1⟩:=below_at b hb p h 7 h0 h1 (by omega);have hj:Ev (fun k=>spec_l11Levels.j1 k (n:Int) out i false b p1 h1') (out,p1,h1'):=Ev.step (f:=fun _=>some (out,p1,h1')) (fun k=>by simp only [spec_l11Levels.j1];rfl) (Ev.now _);refine ⟨out,p1,h1',Ev.step (fun k=>?_) hj,ho,a0,a1⟩;simp only [spec_l11Levels.l0];rw [e1,Option.bind_some,if_neg (by omega)]
 | succ d ih =>
  intro i hi hd hi7 out ho p h h0 h1;obtain ⟨x,p1,h1',e1,x0,x1,a0,a1⟩:=below_at b hb p h 7 h0 h1 (by omega);by_cases c:i < x
  ·obtain ⟨y,p2,h2',e2,y0,y1,b0,b1⟩:=below_at b hb p1 h1' (n:Int) a0 a1 (by omega);obtain ⟨z,p3,h3',e3,c0,c1⟩:=once_at b hb p2 h2' 2 b0 b1 (by omega);have w:wrap64 (i + 1)=i + 1:=wrap_id (by omega) (by omega);have hh:=ih (i + 1) (by clear w;omega) (by clear w;omega) (by clear w;omega);rw [← w] at hh;have hd':decide ((n:Int) > 0)=true:=decide_eq_true (by clear w;omega);have ht:Int.tmod y 5=y % 5:=Int.tmod_eq_emod_of_nonneg y0;cases z with
   | true =>
    obtain ⟨r,p'',h'',er,lr⟩:=lev_j2 b hb n hn out ho i (y % 5) (by clear w ht;omega) (by clear w ht;omega) p3 h3' c0 c1 hh;refine ⟨r,p'',h'',Ev.step (f:=fun k=>spec_l11Levels.j1 k (n:Int) out i true b p1 h1') (fun k=>?_) (Ev.step (fun k=>?_) er),lr⟩
    ·simp only [spec_l11Levels.l0];rw [e1,Option.bind_some,if_pos c,hd']
    ·simp only [spec_l11Levels.j1];rw [if_pos trivial,e2,Option.bind_some,e3,Option.bind_some,if_pos rfl,ht]
   | false =>
    obtain ⟨r,p'',h'',er,lr⟩:=lev_j2 b hb n hn out ho i y y0 y1 p3 h3' c0 c1 hh;refine ⟨r,p'',h'',Ev.step (f:=fun k=>spec_l11Levels.j1 k (n:Int) out i true b p1 h1') (fun k=>?_) (Ev.step (fun k=>?_) er),lr⟩
    ·simp only [spec_l11Levels.l0];rw [e1,Option.bind_some,if_pos c,hd']
    ·simp only [spec_l11Levels.j1];rw [if_pos trivial,e2,Option.bind_some,e3,Option.bind_some,if_neg (by simp)]
  ·have hj:Ev (fun k=>spec_l11Levels.j1 k (n:Int) out i false b p1 h1') (out,p1,h1'):=Ev.step (f:=fun _=>some (out,p1,h1')) (fun k=>by simp only [spec_l11Levels.j1];rfl) (Ev.now _);refine ⟨out,p1,h1',Ev.step (fun k=>?_) hj,ho,a0,a1⟩;simp only [spec_l11Levels.l0];rw [e1,Option.bind_some,if_neg c]
theorem par_at (b:List Int) (hb:b.length≤140737488351232) (p h:Int) (h0:0≤p) (h1:p≤(b.length:Int)) :
  ∃ q l e z p' h',spec_l05ParRight.f b p h=some (q,l,e,z,p',h')∧condB q l e=true∧0≤p'∧p'≤(b.length:Int):=by
 obtain ⟨x,p1,h1',e1,x0,x1,a0,a1⟩:=below_at b hb p h 41 h0 h1 (by omega);obtain ⟨y,p2,h2',e2,b0,b1⟩:=once_at b hb p1 h1' 4 a0 a1 (by omega);obtain ⟨z,p3,h3',e3,z0,z1,c0,c1⟩:=below_at b hb p2 h2' 3 b0 b1 (by omega);have hc:∀ l e:Bool,(l && e)=false→condB x l e=true:=by
  intro l e h;unfold condB;rw [decide_eq_true (by omega),h]
  rfl
 unfold spec_l05ParRight.f;simp only [e1,e2,e3,Option.bind_some];by_cases d0:z=0
 ·simp only [d0,if_true];exact ⟨_,_,_,_,_,_,rfl,hc _ _ rfl,c0,c1⟩
 ·by_cases d1:z=1
  ·simp only [d1,if_true];exact ⟨_,_,_,_,_,_,rfl,hc _ _ rfl,c0,c1⟩
  ·simp only [d0,d1,if_false];exact ⟨_,_,_,_,_,_,rfl,hc _ _ rfl,c0,c1⟩
theorem cond_at (b:List Int) (hb:b.length≤140737488351232) (p h:Int) (h0:0≤p) (h1:p≤(b.length:Int)) :
  ∃ a q l e p' h',spec_l14Cond.f b p h=some (a,q,l,e,p',h')∧condB q l e=true∧0≤p'∧p'≤(b.length:Int):=by
 obtain ⟨q,l,e,z,p1,h1',e1,hc,a0,a1⟩:=par_at b hb p h h0 h1;obtain ⟨y,p2,h2',e2,b0,b1⟩:=once_at b hb p1 h1' 2 a0 a1 (by omega);unfold spec_l14Cond.f;simp only [e1,e2,Option.bind_some];exact ⟨_,_,_,_,_,_,rfl,hc,b0,b1⟩
theorem snoc_all {P:Int→Prop} {l:List Int} {x:Int} (h:∀ y ∈ l,P y) (hx:P x):∀ y ∈ l ++ [x],P y:=by
 intro y hy;rcases List.mem_append.1 hy with hy | hy
 ·exact h y hy
 ·simp at hy;subst hy;exact hx
theorem mod256 (x:Int):0≤x % 256∧x % 256≤255:=by omega
theorem dots_loop (b:List Int) (hb:b.length≤140737488351232) (n:Nat) (hn:n≤1000000) (d:Nat):∀ (out:List Int) (x i p h:Int),0≤i→(n:Int) - i=(d:Int)→(out.length:Int)=i→(∀ y ∈ out,0≤y∧y≤255)→0≤p→p≤(b.length:Int) →
  ∃ r p' h',Ev (fun k=>spec_l12Dots.l0 k (n:Int) out x i b p h) (strOfNums r,p',h')∧r.length=n∧(∀ y ∈ r,0≤y∧y≤255)∧0≤p'∧p'≤(b.length:Int):=by
 induction d with
 | zero =>
  intro out x i p h hi hd ho hx h0 h1;exact ⟨out,p,h,Ev.step (f:=fun _=>some (strOfNums out,p,h)) (fun k=>by simp only [spec_l12Dots.l0];rw [if_neg (by omega)]) (Ev.now _),by omega,hx,h0,h1⟩
 | succ d ih =>
  intro out x i p h hi hd ho hx h0 h1;obtain ⟨y,p1,h1',e1,y0,y1,q0,q1⟩:=below_at b hb p h 6 h0 h1 (by omega);by_cases c0:y=0
  ·obtain ⟨z,p2,h2',e2,z0,z1,s0,s1⟩:=byte_at b hb p1 h1' q0 q1;obtain ⟨r,p',h',er,hr⟩:=ih (out ++ [z % 256]) z (i + 1) p2 h2' (by omega) (by omega) (by simp;omega) (snoc_all hx (mod256 _)) s0 s1;refine ⟨r,p',h',Ev.step (fun k=>?_) er,hr⟩;simp only [spec_l12Dots.l0];rw [if_pos (by omega),e1,Option.bind_some,if_pos c0,e2,Option.bind_some,if_pos (by omega),wrap_id (x:=i + 1) (by omega) (by omega)]
  ·by_cases c1:y=1
   ·obtain ⟨z,p2,h2',e2,z0,z1,s0,s1⟩:=below_at b hb p1 h1' 9 q0 q1 (by omega);obtain ⟨r,p',h',er,hr⟩:=ih (out ++ [(Go.bits .and .i64 (wrap64 ((wrap64 (x + z)) + 252)) 255) % 256]) (Go.bits .and .i64 (wrap64 ((wrap64 (x + z)) + 252)) 255) (i + 1) p2 h2' (by omega) (by omega) (by simp;omega) (snoc_all hx (mod256 _)) s0 s1;refine ⟨r,p',h',Ev.step (fun k=>?_) er,hr⟩;simp only [spec_l12Dots.l0];rw [if_pos (by omega),e1,Option.bind_some,if_neg c0,if_pos c1,e2,Option.bind_some,if_pos (by omega),wrap_id (x:=i + 1) (by omega) (by omega)]
   ·obtain ⟨r,p',h',er,hr⟩:=ih (out ++ [x % 256]) x (i + 1) p1 h1' (by omega) (by omega) (by simp;omega) (snoc_all hx (mod256 _)) q0 q1;refine ⟨r,p',h',Ev.step (fun k=>?_) er,hr⟩;simp only [spec_l12Dots.l0];rw [if_pos (by omega),e1,Option.bind_some,if_neg c0,if_neg c1,if_pos (by omega),wrap_id (x:=i + 1) (by omega) (by omega)]
theorem dots_ev (b:List Int) (hb:b.length≤140737488351232) (p h:Int) (n:Nat) (hn:n≤1000000) (h0:0≤p) (h1:p≤(b.length:Int)) :
  ∃ r p' h',Ev (fun k=>spec_l12Dots.f k b p h (n:Int)) (strOfNums r,p',h')∧r.length=n∧(∀ y ∈ r,0≤y∧y≤255)∧0≤p'∧p'≤(b.length:Int):=by
 obtain ⟨x,p1,h1',e1,x0,x1,q0,q1⟩:=byte_at b hb p h h0 h1;obtain ⟨r,p',h',er,hr⟩:=dots_loop b hb n hn n [] x 0 p1 h1' (by omega) (by omega) rfl (by simp) q0 q1;refine ⟨r,p',h',?_,hr⟩;unfold spec_l12Dots.f;simp only [e1,Option.bind_some];exact er
theorem levels_at (b:List Int) (hb:b.length≤140737488351232) (p h:Int) (h0:0≤p) (h1:p≤(b.length:Int)) :
  ∃ r p' h',Ev (fun k=>spec_l11Levels.f k b p h 64) (r,p',h')∧LevL 64 r∧0≤p'∧p'≤(b.length:Int):=by
 obtain ⟨r,p',h',er,lr⟩:=lev_l0 b hb 64 (.inr rfl) 7 0 (by omega) (by omega) (by omega) (List.replicate 64 0) ⟨by simp,fun x hx=>by have:=List.eq_of_mem_replicate hx;omega⟩ p h h0 h1;refine ⟨r,p',h',?_,lr⟩;unfold spec_l11Levels.f;refine Ev.congr (fun k=>?_) er;rw [if_pos (by omega),if_pos (by omega)];rfl
theorem levB_of {l:List Int} (h:LevL 64 l):levB l=true:=by
 unfold levB;rw [decide_eq_true h.1,allB_iff.2 h.2]
 rfl
/-- What a drawn square is. -/
def SqG (key:Bool) (kd mode dx dy:Int) (l:List Int):Prop:=sqB kd mode dx dy l=true∧(key=true→kd=2)
theorem sqB_one {dx dy:Int} {l:List Int} (hx:-16≤dx∧dx≤16) (hy:-16≤dy∧dy≤16) (hl:LevL 64 l):sqB 1 0 dx dy l=true:=by
 unfold sqB;rw [if_neg (by decide),if_pos rfl,decide_eq_true hx,decide_eq_true hy,levB_of hl]
 rfl
theorem sqB_two {mode:Int} {l:List Int} (hm:0≤mode∧mode≤3) (hl:LevL 64 l):sqB 2 mode 0 0 l=true:=by
 unfold sqB;rw [if_neg (by decide),if_neg (by decide),if_pos rfl,decide_eq_true hm,levB_of hl]
 rfl
theorem any_j1 (b:List Int) (hb:b.length≤140737488351232) (y:Bool) (p h:Int) (h0:0≤p) (h1:p≤(b.length:Int)) :
  ∃ kd mode dx dy l p' h',Ev (fun k=>spec_l15Square.j1 k y b p h) (kd,mode,dx,dy,l,p',h')∧SqG (!y) kd mode dx dy l∧0≤p'∧p'≤(b.length:Int):=by
 cases y with
 | true =>
  obtain ⟨x,p1,h1',e1,x0,x1,a0,a1⟩:=below_at b hb p h 7 h0 h1 (by omega);obtain ⟨z,p2,h2',e2,z0,z1,b0,b1⟩:=below_at b hb p1 h1' 7 a0 a1 (by omega);obtain ⟨r,p3,h3',e3,hr,c0,c1⟩:=levels_at b hb p2 h2' b0 b1;obtain ⟨t,p4,h4',e4,d0,d1⟩:=once_at b hb p3 h3' 6 c0 c1 (by omega);have wz:wrap64 (z - 3)=z - 3:=wrap_id (by omega) (by omega);have hz:-16≤z - 3∧z - 3≤16:=by clear wz;omega
  cases t with
  | true =>
   obtain ⟨u,p5,h5',e5,u0,u1,f0,f1⟩:=below_at b hb p4 h4' 33 d0 d1 (by omega);have wu:wrap64 (u - 16)=u - 16:=by clear wz;exact wrap_id (by omega) (by omega)
   have hu:-16≤u - 16∧u - 16≤16:=by clear wz wu;omega
   refine ⟨1,0,wrap64 (u - 16),wrap64 (z - 3),r,p5,h5',?_,⟨by rw [wu,wz];exact sqB_one hu hz hr,fun hk=>by cases hk⟩,f0,f1⟩;refine Ev.step (fun k=>by simp only [spec_l15Square.j1,if_true,e1,e2,Option.bind_some];rfl) (Ev.bind e3 ?_);simp only [e4,Option.bind_some,if_true,e5];exact Ev.now _
  | false =>
   have wx:wrap64 (x - 3)=x - 3:=by clear wz;exact wrap_id (by omega) (by omega)
   have hx:-16≤x - 3∧x - 3≤16:=by clear wz wx;omega
   refine ⟨1,0,wrap64 (x - 3),wrap64 (z - 3),r,p4,h4',?_,⟨by rw [wx,wz];exact sqB_one hx hz hr,fun hk=>by cases hk⟩,d0,d1⟩;refine Ev.step (fun k=>by simp only [spec_l15Square.j1,if_true,e1,e2,Option.bind_some];rfl) (Ev.bind e3 ?_);simp only [e4,Option.bind_some,Bool.false_eq_true,if_false];exact Ev.now _
 | false =>
  obtain ⟨x,p1,h1',e1,x0,x1,a0,a1⟩:=below_at b hb p h 4 h0 h1 (by omega);obtain ⟨r,p3,h3',e3,hr,c0,c1⟩:=levels_at b hb p1 h1' a0 a1;refine ⟨2,x,0,0,r,p3,h3',?_,⟨sqB_two (by omega) hr,fun _=>rfl⟩,c0,c1⟩;exact Ev.step (fun k=>by simp only [spec_l15Square.j1,Bool.false_eq_true,if_false,e1,Option.bind_some];rfl) (Ev.bind e3 (Ev.now _))
theorem any_square (b:List Int) (hb:b.length≤140737488351232) (p h:Int) (h0:0≤p) (h1:p≤(b.length:Int)) (key:Bool) (q:Int) (large ex:Bool) :
  ∃ kd mode dx dy l p' h',Ev (fun k=>spec_l15Square.f k b p h key q large ex) (kd,mode,dx,dy,l,p',h')∧SqG key kd mode dx dy l∧0≤p'∧p'≤(b.length:Int):=by
 unfold spec_l15Square.f;cases key with
 | true =>
  obtain ⟨kd,mode,dx,dy,l,p',h',e,g,c⟩:=any_j1 b hb false p h h0 h1;refine ⟨kd,mode,dx,dy,l,p',h',?_,g,c⟩;simp only [if_true];exact Ev.step (fun k=>by simp only [spec_l15Square.j0,Bool.false_eq_true,if_false,if_true]) e
 | false =>
  obtain ⟨t,p1,h1',e1,a0,a1⟩:=once_at b hb p h 4 h0 h1 (by omega);simp only [Bool.false_eq_true,if_false,e1,Option.bind_some];cases t with
  | true =>
   exact ⟨0,0,0,0,[],p1,h1',Ev.step (f:=fun _=>some (0,0,0,0,[],p1,h1')) (fun k=>by simp only [spec_l15Square.j0,if_true]) (Ev.now _),⟨rfl,fun hk=>by cases hk⟩,a0,a1⟩
  | false =>
   obtain ⟨u,p2,h2',e2,b0,b1⟩:=once_at b hb p1 h1' 2 a0 a1 (by omega);obtain ⟨kd,mode,dx,dy,l,p',h',e,g,c⟩:=any_j1 b hb u p2 h2' b0 b1;refine ⟨kd,mode,dx,dy,l,p',h',?_,⟨g.1,fun hk=>by cases hk⟩,c⟩;exact Ev.step (fun k=>by simp only [spec_l15Square.j0,Bool.false_eq_true,if_false,e2,Option.bind_some]) e
theorem any_squares (b:List Int) (hb:b.length≤140737488351232) (key:Bool) (q:Int) (large ex:Bool) (n:Int) (hn:n≤1000) (d:Nat):∀ (out:List S50) (i p h:Int),0≤i→n - i=(d:Int)→(out.length:Int)=i→(∀ s ∈ out,SqG key s.f0 s.f1 s.f2 s.f3 s.f4)→0≤p→p≤(b.length:Int) →
  ∃ xs p' h',Ev (fun k=>spec_l16Squares.l0 k n out i b p h key q large ex) (xs,p',h')∧(xs.length:Int)=n∧∀ s ∈ xs,SqG key s.f0 s.f1 s.f2 s.f3 s.f4:=by
 induction d with
 | zero =>
  intro out i p h hi hd ho hg h0 h1;exact ⟨out,p,h,Ev.step (f:=fun _=>some (out,p,h)) (fun k=>by simp only [spec_l16Squares.l0];rw [if_neg (by omega)]) (Ev.now _),by omega,hg⟩
 | succ d ih =>
  intro out i p h hi hd ho hg h0 h1;obtain ⟨kd,mode,dx,dy,l,p1,h1',e,g,c0,c1⟩:=any_square b hb p h h0 h1 key q large ex;obtain ⟨xs,p',h',er,lx,gx⟩:=ih (out ++ [⟨kd,mode,dx,dy,l⟩]) (i + 1) p1 h1' (by omega) (by omega) (by rw [List.length_append];simp;omega) (fun s hs=>by
   rcases List.mem_append.1 hs with hs | hs
   ·exact hg s hs
   ·rw [List.mem_singleton.1 hs];exact g) c0 c1
  refine ⟨xs,p',h',Ev.step (fun k=>by simp only [spec_l16Squares.l0];rw [if_pos (by omega)]) (Ev.bind e ?_),lx,gx⟩;have g1:out.length < 2513169434916:=by omega
  have g2:wrap64 (i + 1)=i + 1:=wrap_id (by omega) (by omega);simp only [g1,if_true,g2];exact er
theorem eight (x:Int) (h0:0≤x) (h1:x < 2):wrap64 (8 * x)=8 * x:=wrap_id (by omega) (by omega)
theorem drawtile_ev (l:List Int) (hl:l.length≤140737488351232):∃ W H rr L T w h key q large ex conf xs,Ev (fun k=>spec_DrawTile.f k l) (W,H,strOfNums rr,L,T,w,h,key,q,large,ex,conf,xs)∧condB q large ex=true ∧
  (rr.length:Int)=W * H∧(∀ y ∈ rr,0≤y∧y≤255)∧(w=8∨w=16)∧(h=8∨h=16)∧0≤L∧0≤T∧L + w≤W∧T + h≤H∧W≤32∧H≤28∧wrap64 ((wrap64 (Int.tdiv w 8)) * (wrap64 (Int.tdiv h 8)))=(xs.length:Int)∧∀ s ∈ xs,SqG key s.f0 s.f1 s.f2 s.f3 s.f4:=by
 obtain ⟨s,es⟩:=new_ev l hl;obtain ⟨a,p1,h1',e1,a0,a1,u1,v1⟩:=below_at l hl 0 s 2 (by omega) (by omega) (by omega);obtain ⟨b,p2,h2',e2,b0,b1,u2,v2⟩:=below_at l hl p1 h1' 2 u1 v1 (by omega);obtain ⟨c,p3,h3',e3,c0,c1,u3,v3⟩:=below_at l hl p2 h2' 2 u2 v2 (by omega);obtain ⟨d,p4,h4',e4,d0,d1,u4,v4⟩:=below_at l hl p3 h3' 2 u3 v3 (by omega);obtain ⟨e,p5,h5',e5,f0,f1,u5,v5⟩:=below_at l hl p4 h4' 2 u4 v4 (by omega);obtain ⟨f,p6,h6',e6,g0,g1,u6,v6⟩:=below_at l hl p5 h5' 5 u5 v5 (by omega);have wa:=eight a a0 a1;have wb:=eight b b0 b1;have wc:=eight c c0 c1;have wd:=eight d d0 d1;have we:=eight e f0 f1;obtain ⟨L,eL⟩:∃ L,8 * a=L:=⟨_,rfl⟩
 obtain ⟨T,eT⟩:∃ T,8 * b=T:=⟨_,rfl⟩
 obtain ⟨w,ew⟩:∃ w,8 + 8 * c=w:=⟨_,rfl⟩
 obtain ⟨h,eh⟩:∃ h,8 + 8 * d=h:=⟨_,rfl⟩
 obtain ⟨W,eW⟩:∃ W,L + w + 8 * e=W:=⟨_,rfl⟩
 obtain ⟨H,eH⟩:∃ H,T + h + f=H:=⟨_,rfl⟩
 have wL:wrap64 L=L:=by rw [← eL];exact wa
 have wT:wrap64 T=T:=by rw [← eT];exact wb
 have hw:w=8∨w=16:=by clear wL wT wa wb wc wd we;omega
 have hh:h=8∨h=16:=by clear wL wT wa wb wc wd we;omega
 have w1:wrap64 (8 + 8 * c)=w:=by clear wL wT wa wb wc wd we;rw [← ew];exact wrap_id (by omega) (by omega)
 have w2:wrap64 (8 + 8 * d)=h:=by clear wL wT wa wb wc wd we w1;rw [← eh];exact wrap_id (by omega) (by omega)
 have w3:wrap64 (L + w)=L + w:=by clear wL wT wa wb wc wd we w1 w2;exact wrap_id (by omega) (by omega)
 have w4:wrap64 (T + h)=T + h:=by clear wL wT wa wb wc wd we w1 w2 w3;exact wrap_id (by omega) (by omega)
 have w5:wrap64 (L + w + 8 * e)=W:=by clear wL wT wa wb wc wd we w1 w2 w3 w4;rw [← eW];exact wrap_id (by omega) (by omega)
 have w6:wrap64 (T + h + f)=H:=by clear wL wT wa wb wc wd we w1 w2 w3 w4 w5;rw [← eH];exact wrap_id (by omega) (by omega)
 have hWH:0≤W * H∧W * H≤32 * 28:=by
  clear wL wT wa wb wc wd we w1 w2 w3 w4 w5 w6;exact ⟨Int.mul_nonneg (by omega) (by omega),Int.mul_le_mul (by omega) (by omega) (by omega) (by omega)⟩
 obtain ⟨n,en⟩:=Int.eq_ofNat_of_zero_le hWH.1;obtain ⟨rr,p7,h7',e7,lr,br,u7,v7⟩:=dots_ev l hl p6 h6' n (by clear wL wT wa wb wc wd we w1 w2 w3 w4 w5 w6;omega) u6 v6;obtain ⟨key,q,large,ex,p8,h8',e8,hc,u8,v8⟩:=cond_at l hl p7 h7' u7 v7;obtain ⟨z,p9,h9',e9,u9,v9⟩:=once_at l hl p8 h8' 3 u8 v8 (by omega);have hn:∃ m:Nat,wrap64 ((wrap64 (Int.tdiv w 8)) * (wrap64 (Int.tdiv h 8)))=(m:Int)∧m≤4:=by
  clear wL wT wa wb wc wd we w1 w2 w3 w4 w5 w6;rcases hw with rfl | rfl <;> rcases hh with rfl | rfl
  ·exact ⟨1,by decide +kernel,by omega⟩
  ·exact ⟨2,by decide +kernel,by omega⟩
  ·exact ⟨2,by decide +kernel,by omega⟩
  ·exact ⟨4,by decide +kernel,by omega⟩
 obtain ⟨m,em,hm⟩:=hn;obtain ⟨xs,p10,h10',e10,lx,gx⟩:=any_squares l hl key q large ex (m:Int) (by clear wL wT wa wb wc wd we w1 w2 w3 w4 w5 w6 em;omega) m [] 0 p9 h9' (by omega) (by omega) rfl (fun s hs=>by cases hs) u9 v9;refine ⟨W,H,rr,L,T,w,h,key,q,large,ex,!z,xs,?_,hc,by rw [lr];exact en.symm,br,hw,hh,by clear wL wT wa wb wc wd we w1 w2 w3 w4 w5 w6 em;omega,by clear wL wT wa wb wc wd we w1 w2 w3 w4 w5 w6 em;omega,by clear wL wT wa wb wc wd we w1 w2 w3 w4 w5 w6 em;omega,by clear wL wT wa wb wc wd we w1 w2 w3 w4 w5 w6 em;omega,by clear wL wT wa wb wc wd we w1 w2 w3 w4 w5 w6 em;omega,by clear wL wT wa wb wc wd we w1 w2 w3 w4 w5 w6 em;omega,em.trans lx.symm,gx⟩;unfold spec_DrawTile.f;refine Ev.bind es (Ev.bind (a:=(W,H,strOfNums rr,L,T,w,h,key,q,large,ex,!z,xs,p10,h10')) ?_ (Ev.now _));have wn:wrap64 (W * H)=(n:Int):=by clear wL wT wa wb wc wd we w1 w2 w3 w4 w5 w6 em;rw [en];exact wrap_id (by omega) (by omega)
 unfold spec_l16Drawn.f spec_l12Sized.f spec_l16Squares.f;simp only [e1,e2,e3,e4,e5,e6,Option.bind_some,wa,wb,wc,wd,we,eL,eT,wL,wT,w1,w2,w3,w4,w5,w6,wn,em];refine Ev.bind (Ev.bind e7 (Ev.now _)) ?_;simp only [e8,e9,Option.bind_some];exact Ev.bind e10 (Ev.now _)
theorem rd_setc (l:List Int) (p:Nat) (v k:Int) (h:p < l.length) (hk:0≤k):rd (l.set p v) k=if k=(p:Int) then v else rd l k:=by
 unfold rd;rw [List.getD_eq_getElem?_getD,List.getD_eq_getElem?_getD];by_cases c:k=(p:Int)
 ·subst c;rw [if_pos rfl,Int.toNat_natCast,List.getElem?_set_self h]
  rfl
 ·rw [if_neg c,List.getElem?_set_ne (by omega)]
theorem place_mod {W X Y:Int} (hX:0≤X∧X < W) (hY:0≤Y):Int.tmod (Y * W + X) W=X∧Int.tdiv (Y * W + X) W=Y:=by
 have h0:0≤Y * W:=Int.mul_nonneg hY (by omega);rw [Int.tmod_eq_emod_of_nonneg (by omega),Int.tdiv_eq_ediv_of_nonneg (by omega),Int.add_comm,Int.add_mul_emod_self_right,Int.add_mul_ediv_right _ _ (by omega),Int.emod_eq_of_lt hX.1 hX.2,Int.ediv_eq_zero_of_lt hX.1 hX.2];exact ⟨rfl,by omega⟩
theorem cutF_same (w:Int) (d d':ByteArray) (x cw:Int):∀ (n:Nat) (y:Int),(∀ y',y≤y'→y' < y + (n:Int)→rowV w d x cw y'=rowV w d' x cw y')→cutF w d x cw n y []=cutF w d' x cw n y []
 | 0,_,_=>rfl
 | n + 1,y,h=>by
  rw [cutF,cutF,cutF_app,cutF_app w d',h y (by omega) (by omega),cutF_same w d d' x cw n (y + 1) (fun y' h1 h2=>h y' (by omega) (by omega))]
/-- The other picture, as far as it must be the same. -/
structure Oth (W L T w h:Int) (rr o:List Int):Prop where
 len:o.length=rr.length
 byt:∀ z ∈ o,0≤z∧z≤255
 same:∀ X Y:Int,L≤X→X < L + w→T≤Y→Y < T + h→rd o (Y * W + X)=rd rr (Y * W + X)
theorem oth_cut {W H L T w h:Int} {rr o:List Int} (hr:PicR W H (strOfNums rr)) (ho:PicR W H (strOfNums o)) (br:∀ z ∈ rr,0≤z∧z≤255) (hH:HoldR W H L T w h) (g:Oth W L T w h rr o) :
  cutF W (strOfNums o) L w h.toNat T []=cutF W (strOfNums rr) L w h.toNat T []:=by
 have q:=hH;unfold HoldR at q;refine cutF_same W _ _ L w h.toNat T (fun y' h1 h2=>?_);obtain ⟨l1,r1⟩:=row_rd ho hH y' h1 (by omega);obtain ⟨l2,r2⟩:=row_rd hr hH y' h1 (by omega);refine List.ext_getElem (by omega) (fun i g1 g2=>?_);have e1:=r1 (i:Int) (by omega) (by omega);have e2:=r2 (i:Int) (by omega) (by omega);rw [bt_nums _ g.byt,rd_nat _ i g1] at e1;rw [bt_nums _ br,rd_nat _ i g2] at e2;rw [e1,e2,show y' * W + L + (i:Int)=y' * W + (L + (i:Int)) by omega];exact g.same (L + (i:Int)) y' (by omega) (by omega) h1 (by omega)
theorem conf_loop {W H L T w h:Int} {rr:List Int} (br:∀ z ∈ rr,0≤z∧z≤255) {key:Bool} {q:Int} {large ex:Bool} {m n:Nat} {xs:List S50} (o:TbOk W H (strOfNums rr) L T w h key q large ex m n xs) {p:List Int} (lp:p.length=12) :
  ∀ i,i≤rr.length→∀ out,Oth W L T w h rr out→Ev (fun k=>laws_FnConfined.l0 k xs p out (i:Int) W H (strOfNums rr) L T w h key q large ex) true:=by
 have hr:=o.pic;unfold PicR at hr;rw [strOfNums_size] at hr;have hH:=o.hold;unfold HoldR at hH;have mb:=small_mul (w:=W) (h:=H) (a:=256) (b:=256) (by omega) (by omega) (by omega) (by omega);refine down rr.length ?_ ?_
 ·intro out g;have hpo:PicR W H (strOfNums out):=⟨hr.1,hr.2.1,by rw [strOfNums_size,g.len];exact hr.2.2⟩
  have e1:=itb_ev o;have e2:=itb_ev (rf:=strOfNums out) ⟨hpo,o.hold,o.hw,o.hh,o.hm,o.hn,o.hn0,o.hl,o.hx,o.hc⟩;have e3:=stb_ev o;have ec:tileV W (strOfNums out) L T w h q large ex m n xs=tileV W (strOfNums rr) L T w h q large ex m n xs:=by
   unfold tileV;rw [oth_cut o.pic hpo br o.hold g]
  rw [ec] at e2;have g1:¬ (rr.length:Int) < (out.length:Int):=by rw [g.len];omega
  refine Ev.step (fun k=>by simp only [laws_FnConfined.l0];rw [if_neg g1]) (Ev.bind e1 (Ev.bind e2 (Ev.bind e3 ?_)));simp only [if_true,beq_self_eq_true,Bool.and_self];exact Ev.now _
 ·intro i hi ih out g;have hlen:=g.len;obtain ⟨X0,Y0,ek,a0,a1,b0,b1⟩:=place_of (w:=W) (h:=H) (k:=(i:Int)) (by omega) (by omega) (by omega);have pm:=place_mod ⟨a0,a1⟩ b0;rw [← ek] at pm;have w2:wrap64 (L + w)=L + w:=wrap_id (by omega) (by omega);have w3:wrap64 (T + h)=T + h:=by clear w2;exact wrap_id (by omega) (by omega)
  have w4:wrap64 Y0=Y0:=by clear w2 w3;exact wrap_id (by omega) (by omega)
  have w1:wrap64 ((i:Int) + 1)=((i + 1:Nat):Int):=by clear w2 w3 w4;rw [wrap_id (by omega) (by omega)];omega
  have t0:0≤Int.tmod (i:Int) 12∧Int.tmod (i:Int) 12 < (p.length:Int):=by clear w1 w2 w3 w4 pm;rw [lp,Int.tmod_eq_emod_of_nonneg (by omega)];omega
  have g1:(i:Int) < (out.length:Int):=by clear w1 w2 w3 w4 pm t0;omega
  have n0:¬ W=0:=by clear w1 w2 w3 w4 pm t0;omega
  have g2:(0:Int)≤(i:Int):=by clear w1 w2 w3 w4 pm t0;omega
  have hil:i < out.length:=by clear w1 w2 w3 w4 pm t0;omega
  have hs:¬ ((L≤X0∧X0 < L + w)∧(T≤Y0∧Y0 < T + h))→Ev (fun k=>laws_FnConfined.l0 k xs p (out.set i ((wrap64 ((rd p (Int.tmod (i:Int) 12)) + (i:Int))) % 256)) ((i + 1:Nat):Int) W H (strOfNums rr) L T w h key q large ex) true:=by
   intro no;generalize (wrap64 ((rd p (Int.tmod (i:Int) 12)) + (i:Int)))=v;refine ih _ ⟨by rw [List.length_set];exact hlen,fun z hz=>?_,fun X Y c0 c1 d0 d1=>?_⟩
   ·rcases List.mem_or_eq_of_mem_set hz with hm | rfl
    ·exact g.byt _ hm
    ·omega
   ·clear w1 w2 w3 w4 t0;have hk:0≤Y * W:=Int.mul_nonneg (by omega) (by omega);rw [rd_setc _ _ _ _ hil (by omega),if_neg (fun e=>no (by
     have p2:=place_mod (W:=W) (X:=X) (Y:=Y) ⟨by omega,by omega⟩ (by omega);rw [e] at p2;have q1:=p2.1.symm.trans pm.1;have q2:=p2.2.symm.trans pm.2;subst q1;subst q2;exact ⟨⟨c0,c1⟩,d0,d1⟩))]
    exact g.same X Y c0 c1 d0 d1
  by_cases c1:X0 < L
  ·exact Ev.step (fun k=>by simp only [laws_FnConfined.l0];rw [if_pos g1,if_neg n0,pm.1,if_pos c1,if_pos t0.1,if_pos t0.2,if_pos g2,Int.toNat_natCast,w1]) (hs (by clear w1 w2 w3 w4 t0 pm;omega))
  ·by_cases c2:X0 ≥ L + w
   ·exact Ev.step (fun k=>by simp only [laws_FnConfined.l0];rw [if_pos g1,if_neg n0,pm.1,if_neg c1,w2,if_pos c2,if_pos t0.1,if_pos t0.2,if_pos g2,Int.toNat_natCast,w1]) (hs (by clear w1 w2 w3 w4 t0 pm;omega))
   ·by_cases c3:Y0 < T
    ·exact Ev.step (fun k=>by simp only [laws_FnConfined.l0];rw [if_pos g1,if_neg n0,pm.1,if_neg c1,w2,if_neg c2,pm.2,w4,if_pos c3,if_pos t0.1,if_pos t0.2,if_pos g2,Int.toNat_natCast,w1]) (hs (by clear w1 w2 w3 w4 t0 pm;omega))
    ·by_cases c4:Y0 ≥ T + h
     ·exact Ev.step (fun k=>by simp only [laws_FnConfined.l0];rw [if_pos g1,if_neg n0,pm.1,if_neg c1,w2,if_neg c2,pm.2,w4,if_neg c3,w3,if_pos c4,if_pos t0.1,if_pos t0.2,if_pos g2,Int.toNat_natCast,w1]) (hs (by clear w1 w2 w3 w4 t0 pm;omega))
     ·exact Ev.step (fun k=>by simp only [laws_FnConfined.l0];rw [if_pos g1,if_neg n0,pm.1,if_neg c1,w2,if_neg c2,pm.2,w4,if_neg c3,w3,if_neg c4,w1]) (ih out g)
theorem FnConfined:laws_FnConfined.Pure:=by
 intro l _ hl _;refine Ev.rounds ?_;unfold laws_FnConfined.f laws_big.f;simp only [Option.bind_some];by_cases c:(l.length:Int) > 1048576
 ·simp only [c,decide_true,if_true];exact Ev.now _
 ·simp only [c,decide_false,Bool.false_eq_true,if_false];obtain ⟨W,H,rr,L,T,w,h,key,q,large,ex,conf,xs,ed,hc,lr,br,hw,hh,hL,hT,hLW,hTH,hW,hH,hlx,hg⟩:=drawtile_ev l (by omega);obtain ⟨p,ep,lp,bp⟩:=places_ev l (by omega);obtain ⟨m,hm⟩:=tileW hw;obtain ⟨v,hv⟩:=tileW hh;have hn:((xs.length:Nat):Int)=(m:Int) * (h / 8):=by
   rw [← hlx,hm.2.2,hv.2.2,hv.2.1];have:=hm.1;have:=hv.1;rcases hm.1 with rfl | rfl <;> rcases hv.1 with rfl | rfl <;> decide +kernel
  have o:TbOk W H (strOfNums rr) L T w h key q large ex m xs.length xs:=⟨⟨by clear hlx hn;omega,by clear hlx hn;omega,by rw [strOfNums_size];exact lr⟩,⟨by clear hlx hn;omega,by clear hlx hn;omega,by clear hlx hn;omega,by clear hlx hn;omega⟩,hw,hh,hm,hn,hlx,rfl,fun i hi=>by rw [rd63_nat xs i hi];exact hg _ (List.getElem_mem hi),hc⟩
  refine Ev.bind ed (Ev.bind ep ?_);simp only [bytesOf_strOfNums br];exact conf_loop br o lp 0 (Nat.zero_le _) rr ⟨rfl,br,fun _ _ _ _ _ _=>rfl⟩
end Go.Proofs.YtdfekcelcdkjlaaGreat.Pure