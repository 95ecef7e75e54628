/- Walks of what the law reaches. -/
import Derived.Test.YtdfekcelcdkjlaaGreatQFnConfinedx0
import Derived.Test.YtdfekcelcdkjlaaGreatQFnConfinedx1
import Derived.Test.YtdfekcelcdkjlaaGreatQFnConfinedx2
namespace Go.Proofs.YtdfekcelcdkjlaaGreat.QFnConfined
open Go.RowKit Go.Proofs.YtdfekcelcdkjlaaGreatW.PrintWords Go.Proofs.YtdfekcelcdkjlaaGreatW.PrintLast Go.Proofs.YtdfekcelcdkjlaaGreatW.PrintMore Go.Proofs.YtdfekcelcdkjlaaGreatV
attribute [local go_sem] max2_int min2_int max_two min_two max_three min_three max_four min_four
set_option linter.unusedVariables false
set_option linter.unusedSimpArgs false
set_option maxHeartbeats 8000000
set_option maxRecDepth 100000
def fl2 (x:Int):Int:=if Int.tmod x 2 < 0 then wrap64 (wrap64 (Int.tdiv x 2) - 1) else wrap64 (Int.tdiv x 2)
def b4 (a b c d:Int):Int × Int × Int × Int:=(wrap64 (wrap64 (a + c) + wrap64 (b + fl2 d)),wrap64 (wrap64 (a - c) + wrap64 (fl2 b - d)),wrap64 (wrap64 (a - c) - wrap64 (fl2 b - d)),wrap64 (wrap64 (a + c) - wrap64 (b + fl2 d)))
def impl_FourBack.f (k:Nat) (l0:List Int):Option (List Int):=(impl_areIn.f k l0 16 (-10000000) 10000000).bind fun t121=>(if t121=true then (if l0.length=16 then ((impl_settled.f k (turnedL b4 l0)).bind fun t178=>(some t178)) else (none)) else (some (([]:List Int))))
theorem fl2_eq (x:Int):impl_floor.f x 2=some (fl2 x):=by
 unfold impl_floor.f fl2;rw [if_neg (by decide)]
 split <;> rfl
theorem b4.calls (a b c d:Int) (w:World) :
  Calls Tryz.prog 88 #[.int .i64 a,.int .i64 b,.int .i64 c,.int .i64 d] w fun e w'=>e=.returned (.agg #[.int .i64 (b4 a b c d).1,.int .i64 (b4 a b c d).2.1,.int .i64 (b4 a b c d).2.2.1,.int .i64 (b4 a b c d).2.2.2])∧Below w.heap.size w w':=by
 have F1:=am (fl2_eq b);have F2:=am (fl2_eq d);simp only [b4];generalize fl2 b=p at F1 ⊢;generalize fl2 d=q at F2 ⊢;go_enter Tryz.func88,Tryz.ntmps88;go_wp2_with (first|(go_at_call_of 89 (Value.int .i64 b);(with_reducible refine (impl_floor.calls b 2 p _ F1.out).mono ?_);rintro e w' ⟨rfl,⟨nd,rfl⟩⟩)|(go_at_call_of 89 (Value.int .i64 d);(with_reducible refine (impl_floor.calls d 2 q _ F2.out).mono ?_);rintro e w' ⟨rfl,⟨nd,rfl⟩⟩));refine bodyPost_ret (results_cell_row (t:=98) (fr:=(0,0)) rfl _ _ w.heap.size _ _ rfl (set4heap _ w.heap.size _ _ _ _ _ _ _ _ 98 (heap_alloc_new w _)) Tryz.underlying98 rfl (by kernel_rfl)) rfl ⟨rfl,?_⟩;exact below_set (below_set (below_set (below_set (pw_below_drewN (below_alloc (Below.refl _ _) _) _) (Nat.le_refl _)) (Nat.le_refl _)) (Nat.le_refl _)) (Nat.le_refl _)
theorem turned72.calls (A0:Option Addr) (c0:Nat) (l0:List Int) (w:World) (hr0:Kd.C (Kd.int .i64) w A0 l0.length l0) (hc0:l0.length≤c0) (h16:l0.length=16) :
  Calls Tryz.prog 87 #[.slice A0 l0.length c0,.func (.func 88) #[] #[]] w fun e w'=>∃ v0_:Value,e=.returned (v0_)∧Kd.R (Kd.int .i64) 3 w' w.heap.size (fun _=>True) v0_ (turnedL b4 l0)∧Below w.heap.size w w':=by
 have HR0:=am hr0;have HC0:=am hc0;have H16:=am h16;have HB:=am (Below.refl w.heap.size w);have A1:=am (show impl_copyInts.f l0=some l0 by unfold impl_copyInts.f;simp [h16]);clear hr0 hc0 h16;go_enter Tryz.func87,Tryz.ntmps87;go_wp2_with (first|((with_reducible refine gc 100 ?_);refine gX (some 13) Tryz.func100 _ (impl_copyInts.calls _ _ _ _ _ (ca (HR0.out)) HC0.out A1.out) ?_ (hargs:=(by (try simp only [List.map_toArray,List.map_cons,List.map_nil]);first | done | rfl));rintro v126 w8 ⟨ho0,hb⟩;have n0_:=am (Kd.R_lower ho0 (below_size HB.out));have n1_:=am (below_step HB.out hb);clear HB;have HO:=n0_;have HB:=n1_;clear n0_ n1_ ho0 hb;obtain ⟨go,co,eo,gb,gl,cl,HG⟩:=Kd.R_form HO.out (by rw [H16.out];decide);rw [H16.out] at eo;subst eo;clear HG cl gl));go_loopg [6] 4 (fun kq v6 w'=>∃ (n:Nat) (r:Int),v6=.int .i64 r∧Aside0 (kq + n=4∧r=4 * n)∧Aside0 (Kd.R (Kd.int .i64) 3 w' w.heap.size (fun _=>True) (.slice (some ⟨go,0,none⟩) 16 co) (rowsT b4 l0 n))∧Aside0 (Below w.heap.size w w'))
 case atStart=>exact ⟨0,0,rfl,⟨rfl,rfl⟩,⟨HO.out⟩,⟨HB.out⟩⟩
 case round =>
  clear HO HB;obtain ⟨n,r,rfl,HN,HO,HB⟩:=hrel;have hn:n=4∨n=0∨n=1∨n=2∨n=3:=by have:=HN.out.1;omega
  rcases hn with rfl | hn
  ·obtain rfl:r=16:=by have:=HN.out.2;omega
   obtain ⟨Y,hY⟩:∃ Y,Y=rowsT b4 l0 4:=⟨_,rfl⟩
   rw [← hY] at HO;replace hY:=am hY;go_wp2;go_loopg [46] 4 (fun kq v46 w'=>∃ (n:Nat) (c:Int),v46=.int .i64 c∧Aside0 (kq + n=4∧c=n)∧Aside0 (Kd.R (Kd.int .i64) 3 w' w.heap.size (fun _=>True) (.slice (some ⟨go,0,none⟩) 16 co) (colsT b4 Y n))∧Aside0 (Below w.heap.size w w'))
   case atStart=>exact ⟨0,0,rfl,⟨rfl,rfl⟩,HO,HB⟩
   case round =>
    clear HO HB HN;obtain ⟨n,c,rfl,HM,HO,HB⟩:=hrel;have hn:n=4∨n=0∨n=1∨n=2∨n=3:=by have:=HM.out.1;omega
    rcases hn with rfl | hn
    ·obtain rfl:c=4:=by have:=HM.out.2;omega
     go_wp2;go_ret;exact ⟨_,rfl,by rw [turnedL,← hY.out];exact HO.out,HB.out⟩
    rcases hn with rfl | hn
    ·obtain rfl:gk=4:=by have:=HM.out.1;omega
     obtain rfl:c=0:=by have:=HM.out.2;omega
     obtain ⟨X,hX⟩:∃ X,X=colsT b4 Y 0:=⟨_,rfl⟩
     rw [← hX] at HO;replace hX:=am hX;have hx0:wr.cell? ⟨go,0,none⟩=some (.int .i64 (rd X 0)):=(Kd.R_celln 0 HO.out 0 (by decide) (by decide)).1;have hx1:wr.cell? ⟨go,4,none⟩=some (.int .i64 (rd X 4)):=(Kd.R_celln 0 HO.out 4 (by decide) (by decide)).1;have hx2:wr.cell? ⟨go,8,none⟩=some (.int .i64 (rd X 8)):=(Kd.R_celln 0 HO.out 8 (by decide) (by decide)).1;have hx3:wr.cell? ⟨go,12,none⟩=some (.int .i64 (rd X 12)):=(Kd.R_celln 0 HO.out 12 (by decide) (by decide)).1;generalize hq0:rd X 0=q0 at hx0;generalize hq1:rd X 4=q1 at hx1;generalize hq2:rd X 8=q2 at hx2;generalize hq3:rd X 12=q3 at hx3;replace hq0:=am hq0;replace hq1:=am hq1;replace hq2:=am hq2;replace hq3:=am hq3;have hd0:wr.drew.cell? ⟨go,0,none⟩=some (.int .i64 q0):=hx0;have hd1:wr.drew.cell? ⟨go,4,none⟩=some (.int .i64 q1):=hx1;have hd2:wr.drew.cell? ⟨go,8,none⟩=some (.int .i64 q2):=hx2;have hd3:wr.drew.cell? ⟨go,12,none⟩=some (.int .i64 q3):=hx3;have e1:IntKind.i64.wrap (0 + 4)=4:=rfl;have g1:IntKind.i64.wrap 4=4:=rfl;have e2:IntKind.i64.wrap (0 + 8)=8:=rfl;have g2:IntKind.i64.wrap 8=8:=rfl;have e3:IntKind.i64.wrap (0 + 12)=12:=rfl;have g3:IntKind.i64.wrap 12=12:=rfl;have hlt:=World.block_lt_of_cell? wr _ hx0;have hne:¬ (wr.heap.size=go):=by simp at hlt;omega
     go_wp2;refine share4 (G:=?G1) (fun tail_=>?main1) ?tail1;case main1 =>
      go_region_held3 (fun W=>W.cell? ⟨go,0,none⟩=some (.int .i64 q0)∧W.cell? ⟨go,4,none⟩=some (.int .i64 q1)∧W.cell? ⟨go,8,none⟩=some (.int .i64 q2)∧W.cell? ⟨go,12,none⟩=some (.int .i64 q3)) ((with_reducible ((repeat' apply And.intro) <;> (exact qd)))) (first|(go_at_call 88;refine (b4.calls _ _ _ _ _).mono ?_;rintro e w2 ⟨rfl,hb2⟩;(first|(have hz:w2.heap[wr.heap.size]?=some (.cells #[.int .i64 0,.int .i64 0,.int .i64 0,.int .i64 0] 98):=(hb2.block wr.heap.size (by simp)).trans (heap_alloc_new wr.drew _);obtain ⟨hc0,hc1,hc2,hc3,hf0,hf1,hf2,hf3⟩:=cl4 ⟨hz⟩;clear hz;replace hb2:Below wr.heap.size wr w2:=below_step (below_drew (below_alloc (Below.refl wr.heap.size wr) _)) hb2)|(replace hb2:Below wr.heap.size wr w2:=below_step (below_drew (Below.refl wr.heap.size wr)) hb2))))
      ·have hB4:=below_alloc hb2 (.cells #[.int .i64 (b4 q0 q1 q2 q3).1,.int .i64 (b4 q0 q1 q2 q3).2.1,.int .i64 (b4 q0 q1 q2 q3).2.2.1,.int .i64 (b4 q0 q1 q2 q3).2.2.2] 98);have hn4:Aside0 (w2.heap.size≠go):=⟨by have:=hb2.size;have h2_:=World.block_lt_of_cell? wr _ hx0;simp at this h2_;omega⟩
       have HOW:=am (Kd.R_below HO.out hB4);have HBW:=am (below_step HB.out hB4);obtain ⟨k0,k1,k2,k3⟩:=new4 w2 (.int .i64 (b4 q0 q1 q2 q3).1) (.int .i64 (b4 q0 q1 q2 q3).2.1) (.int .i64 (b4 q0 q1 q2 q3).2.2.1) (.int .i64 (b4 q0 q1 q2 q3).2.2.2);revert HOW HBW hn4 k0 k1 k2 k3;generalize w2.alloc _=W4;generalize w2.heap.size=bk4;intro hn4 HOW HBW k0 k1 k2 k3;revert hn4 HOW HBW k0 k1 k2 k3;revert bk4;revert W4;exact tail_
      ·have hB4:Below wr.heap.size wr ((((w2.setCell ⟨wr.heap.size,0,none⟩ (.int .i64 (b4 q0 q1 q2 q3).1)).setCell ⟨wr.heap.size,1,none⟩ (.int .i64 (b4 q0 q1 q2 q3).2.1)).setCell ⟨wr.heap.size,2,none⟩ (.int .i64 (b4 q0 q1 q2 q3).2.2.1)).setCell ⟨wr.heap.size,3,none⟩ (.int .i64 (b4 q0 q1 q2 q3).2.2.2)):=below_set (below_set (below_set (below_set hb2 (Nat.le_refl _)) (Nat.le_refl _)) (Nat.le_refl _)) (Nat.le_refl _);have hn4:Aside0 (wr.heap.size≠go):=⟨hne⟩
       have HOW:=am (Kd.R_below HO.out hB4);have HBW:=am (below_step HB.out hB4);obtain ⟨k0,k1,k2,k3⟩:=set4 w2 wr.heap.size _ _ _ _ (.int .i64 (b4 q0 q1 q2 q3).1) (.int .i64 (b4 q0 q1 q2 q3).2.1) (.int .i64 (b4 q0 q1 q2 q3).2.2.1) (.int .i64 (b4 q0 q1 q2 q3).2.2.2) hc0 hc1 hc2 hc3;exact tail_ _ _ hn4 HOW HBW k0 k1 k2 k3
     case tail1 =>
      intro W4 bk4 hn4 HOW HBW k0 k1 k2 k3;clear hx0 hx1 hx2 hx3 hd0 hd1 hd2 hd3 hne hlt HO HB;go_wp2;go_loopg [71] 4 (fun kq v71 w'=>∃ (m:Nat) (i:Int),v71=.int .i64 i∧Aside0 (kq + m=4∧i=m)∧Aside0 (Kd.R (Kd.int .i64) 3 w' w.heap.size (fun _=>True) (.slice (some ⟨go,0,none⟩) 16 co) (setsT X 0 (b4 q0 q1 q2 q3) m))∧Aside0 (Below w.heap.size w w'))
      case atStart=>exact ⟨0,0,rfl,⟨rfl,rfl⟩,HOW,HBW⟩
      case round =>
       clear HOW HBW k0 k1 k2 k3;obtain ⟨m,i,rfl,HN2,HO,HB⟩:=hrel;have hm:m=4∨m=0∨m=1∨m=2∨m=3:=by have:=HN2.out.1;omega
       rcases hm with rfl | hm
       ·obtain rfl:i=4:=by have:=HN2.out.2;omega
        have hfin:setsT X 0 (b4 q0 q1 q2 q3) 4=colsT b4 Y 1:=by rw [← hq0.out,← hq1.out,← hq2.out,← hq3.out,hX.out];rfl
        rw [hfin] at HO;clear hfin;go_wp2;go_roundg 3;case measure=>decide
        case rel=>exact ⟨1,1,rfl,⟨by decide,by decide⟩,HO,HB⟩
       rcases hm with rfl | hm
       ·obtain rfl:i=0:=by have:=HN2.out.2;omega
        obtain rfl:gk=4:=by have:=HN2.out.1;omega
        obtain ⟨hx0,hf0⟩:wr.cell? ⟨go,0,none⟩=some (.int .i64 (rd (setsT X 0 (b4 q0 q1 q2 q3) 0) 0))∧wr.frozen? ⟨go,0,none⟩=false:=Kd.R_celln 0 HO.out 0 (by decide) (by decide);have HO5:=am (Kd.R_putg HO.out 0 ((b4 q0 q1 q2 q3).1)).1;have HB5:=am (below_set (j:=0) (v:=.int .i64 (b4 q0 q1 q2 q3).1) HB.out gb);have e1:IntKind.i64.wrap (4 * 0)=0:=rfl;have g1:IntKind.i64.wrap 0=0:=rfl;have e2:IntKind.i64.wrap (0 + 0)=0:=rfl;have g2:IntKind.i64.wrap 0=0:=rfl;have hix:∀ W,(Instr.index 98 (.agg #[.int .i64 (b4 q0 q1 q2 q3).1,.int .i64 (b4 q0 q1 q2 q3).2.1,.int .i64 (b4 q0 q1 q2 q3).2.2.1,.int .i64 (b4 q0 q1 q2 q3).2.2.2]) (.int .i64 0)).run Tryz.prog W=.ok (.int .i64 (b4 q0 q1 q2 q3).1) W:=fun W=>(index4 W _ _ _ _).1
        go_wp2;go_roundg 3;case measure=>decide
        case rel=>exact ⟨1,1,rfl,⟨by decide,by decide⟩,HO5,HB5⟩
       rcases hm with rfl | hm
       ·obtain rfl:i=1:=by have:=HN2.out.2;omega
        obtain rfl:gk=3:=by have:=HN2.out.1;omega
        obtain ⟨hx0,hf0⟩:wr.cell? ⟨go,4,none⟩=some (.int .i64 (rd (setsT X 0 (b4 q0 q1 q2 q3) 1) 4))∧wr.frozen? ⟨go,4,none⟩=false:=Kd.R_celln 0 HO.out 4 (by decide) (by decide);have HO5:=am (Kd.R_putg HO.out 4 ((b4 q0 q1 q2 q3).2.1)).1;have HB5:=am (below_set (j:=4) (v:=.int .i64 (b4 q0 q1 q2 q3).2.1) HB.out gb);have e1:IntKind.i64.wrap (4 * 1)=4:=rfl;have g1:IntKind.i64.wrap 4=4:=rfl;have e2:IntKind.i64.wrap (0 + 4)=4:=rfl;have g2:IntKind.i64.wrap 4=4:=rfl;have hix:∀ W,(Instr.index 98 (.agg #[.int .i64 (b4 q0 q1 q2 q3).1,.int .i64 (b4 q0 q1 q2 q3).2.1,.int .i64 (b4 q0 q1 q2 q3).2.2.1,.int .i64 (b4 q0 q1 q2 q3).2.2.2]) (.int .i64 1)).run Tryz.prog W=.ok (.int .i64 (b4 q0 q1 q2 q3).2.1) W:=fun W=>(index4 W _ _ _ _).2.1
        go_wp2;go_roundg 2;case measure=>decide
        case rel=>exact ⟨2,2,rfl,⟨by decide,by decide⟩,HO5,HB5⟩
       rcases hm with rfl | hm
       ·obtain rfl:i=2:=by have:=HN2.out.2;omega
        obtain rfl:gk=2:=by have:=HN2.out.1;omega
        obtain ⟨hx0,hf0⟩:wr.cell? ⟨go,8,none⟩=some (.int .i64 (rd (setsT X 0 (b4 q0 q1 q2 q3) 2) 8))∧wr.frozen? ⟨go,8,none⟩=false:=Kd.R_celln 0 HO.out 8 (by decide) (by decide);have HO5:=am (Kd.R_putg HO.out 8 ((b4 q0 q1 q2 q3).2.2.1)).1;have HB5:=am (below_set (j:=8) (v:=.int .i64 (b4 q0 q1 q2 q3).2.2.1) HB.out gb);have e1:IntKind.i64.wrap (4 * 2)=8:=rfl;have g1:IntKind.i64.wrap 8=8:=rfl;have e2:IntKind.i64.wrap (0 + 8)=8:=rfl;have g2:IntKind.i64.wrap 8=8:=rfl;have hix:∀ W,(Instr.index 98 (.agg #[.int .i64 (b4 q0 q1 q2 q3).1,.int .i64 (b4 q0 q1 q2 q3).2.1,.int .i64 (b4 q0 q1 q2 q3).2.2.1,.int .i64 (b4 q0 q1 q2 q3).2.2.2]) (.int .i64 2)).run Tryz.prog W=.ok (.int .i64 (b4 q0 q1 q2 q3).2.2.1) W:=fun W=>(index4 W _ _ _ _).2.2.1
        go_wp2;go_roundg 1;case measure=>decide
        case rel=>exact ⟨3,3,rfl,⟨by decide,by decide⟩,HO5,HB5⟩
       obtain rfl:=hm
       ·obtain rfl:i=3:=by have:=HN2.out.2;omega
        obtain rfl:gk=1:=by have:=HN2.out.1;omega
        obtain ⟨hx0,hf0⟩:wr.cell? ⟨go,12,none⟩=some (.int .i64 (rd (setsT X 0 (b4 q0 q1 q2 q3) 3) 12))∧wr.frozen? ⟨go,12,none⟩=false:=Kd.R_celln 0 HO.out 12 (by decide) (by decide);have HO5:=am (Kd.R_putg HO.out 12 ((b4 q0 q1 q2 q3).2.2.2)).1;have HB5:=am (below_set (j:=12) (v:=.int .i64 (b4 q0 q1 q2 q3).2.2.2) HB.out gb);have e1:IntKind.i64.wrap (4 * 3)=12:=rfl;have g1:IntKind.i64.wrap 12=12:=rfl;have e2:IntKind.i64.wrap (0 + 12)=12:=rfl;have g2:IntKind.i64.wrap 12=12:=rfl;have hix:∀ W,(Instr.index 98 (.agg #[.int .i64 (b4 q0 q1 q2 q3).1,.int .i64 (b4 q0 q1 q2 q3).2.1,.int .i64 (b4 q0 q1 q2 q3).2.2.1,.int .i64 (b4 q0 q1 q2 q3).2.2.2]) (.int .i64 3)).run Tryz.prog W=.ok (.int .i64 (b4 q0 q1 q2 q3).2.2.2) W:=fun W=>(index4 W _ _ _ _).2.2.2
        go_wp2;go_roundg 0;case measure=>decide
        case rel=>exact ⟨4,4,rfl,⟨by decide,by decide⟩,HO5,HB5⟩
    rcases hn with rfl | hn
    ·obtain rfl:gk=3:=by have:=HM.out.1;omega
     obtain rfl:c=1:=by have:=HM.out.2;omega
     obtain ⟨X,hX⟩:∃ X,X=colsT b4 Y 1:=⟨_,rfl⟩
     rw [← hX] at HO;replace hX:=am hX;have hx0:wr.cell? ⟨go,1,none⟩=some (.int .i64 (rd X 1)):=(Kd.R_celln 0 HO.out 1 (by decide) (by decide)).1;have hx1:wr.cell? ⟨go,5,none⟩=some (.int .i64 (rd X 5)):=(Kd.R_celln 0 HO.out 5 (by decide) (by decide)).1;have hx2:wr.cell? ⟨go,9,none⟩=some (.int .i64 (rd X 9)):=(Kd.R_celln 0 HO.out 9 (by decide) (by decide)).1;have hx3:wr.cell? ⟨go,13,none⟩=some (.int .i64 (rd X 13)):=(Kd.R_celln 0 HO.out 13 (by decide) (by decide)).1;generalize hq0:rd X 1=q0 at hx0;generalize hq1:rd X 5=q1 at hx1;generalize hq2:rd X 9=q2 at hx2;generalize hq3:rd X 13=q3 at hx3;replace hq0:=am hq0;replace hq1:=am hq1;replace hq2:=am hq2;replace hq3:=am hq3;have hd0:wr.drew.cell? ⟨go,1,none⟩=some (.int .i64 q0):=hx0;have hd1:wr.drew.cell? ⟨go,5,none⟩=some (.int .i64 q1):=hx1;have hd2:wr.drew.cell? ⟨go,9,none⟩=some (.int .i64 q2):=hx2;have hd3:wr.drew.cell? ⟨go,13,none⟩=some (.int .i64 q3):=hx3;have e1:IntKind.i64.wrap (1 + 4)=5:=rfl;have g1:IntKind.i64.wrap 5=5:=rfl;have e2:IntKind.i64.wrap (1 + 8)=9:=rfl;have g2:IntKind.i64.wrap 9=9:=rfl;have e3:IntKind.i64.wrap (1 + 12)=13:=rfl;have g3:IntKind.i64.wrap 13=13:=rfl;have hlt:=World.block_lt_of_cell? wr _ hx0;have hne:¬ (wr.heap.size=go):=by simp at hlt;omega
     go_wp2;refine share4 (G:=?G2) (fun tail_=>?main2) ?tail2;case main2 =>
      go_region_held3 (fun W=>W.cell? ⟨go,1,none⟩=some (.int .i64 q0)∧W.cell? ⟨go,5,none⟩=some (.int .i64 q1)∧W.cell? ⟨go,9,none⟩=some (.int .i64 q2)∧W.cell? ⟨go,13,none⟩=some (.int .i64 q3)) ((with_reducible ((repeat' apply And.intro) <;> (exact qd)))) (first|(go_at_call 88;refine (b4.calls _ _ _ _ _).mono ?_;rintro e w2 ⟨rfl,hb2⟩;(first|(have hz:w2.heap[wr.heap.size]?=some (.cells #[.int .i64 0,.int .i64 0,.int .i64 0,.int .i64 0] 98):=(hb2.block wr.heap.size (by simp)).trans (heap_alloc_new wr.drew _);obtain ⟨hc0,hc1,hc2,hc3,hf0,hf1,hf2,hf3⟩:=cl4 ⟨hz⟩;clear hz;replace hb2:Below wr.heap.size wr w2:=below_step (below_drew (below_alloc (Below.refl wr.heap.size wr) _)) hb2)|(replace hb2:Below wr.heap.size wr w2:=below_step (below_drew (Below.refl wr.heap.size wr)) hb2))))
      ·have hB4:=below_alloc hb2 (.cells #[.int .i64 (b4 q0 q1 q2 q3).1,.int .i64 (b4 q0 q1 q2 q3).2.1,.int .i64 (b4 q0 q1 q2 q3).2.2.1,.int .i64 (b4 q0 q1 q2 q3).2.2.2] 98);have hn4:Aside0 (w2.heap.size≠go):=⟨by have:=hb2.size;have h2_:=World.block_lt_of_cell? wr _ hx0;simp at this h2_;omega⟩
       have HOW:=am (Kd.R_below HO.out hB4);have HBW:=am (below_step HB.out hB4);obtain ⟨k0,k1,k2,k3⟩:=new4 w2 (.int .i64 (b4 q0 q1 q2 q3).1) (.int .i64 (b4 q0 q1 q2 q3).2.1) (.int .i64 (b4 q0 q1 q2 q3).2.2.1) (.int .i64 (b4 q0 q1 q2 q3).2.2.2);revert HOW HBW hn4 k0 k1 k2 k3;generalize w2.alloc _=W4;generalize w2.heap.size=bk4;intro hn4 HOW HBW k0 k1 k2 k3;revert hn4 HOW HBW k0 k1 k2 k3;revert bk4;revert W4;exact tail_
      ·have hB4:Below wr.heap.size wr ((((w2.setCell ⟨wr.heap.size,0,none⟩ (.int .i64 (b4 q0 q1 q2 q3).1)).setCell ⟨wr.heap.size,1,none⟩ (.int .i64 (b4 q0 q1 q2 q3).2.1)).setCell ⟨wr.heap.size,2,none⟩ (.int .i64 (b4 q0 q1 q2 q3).2.2.1)).setCell ⟨wr.heap.size,3,none⟩ (.int .i64 (b4 q0 q1 q2 q3).2.2.2)):=below_set (below_set (below_set (below_set hb2 (Nat.le_refl _)) (Nat.le_refl _)) (Nat.le_refl _)) (Nat.le_refl _);have hn4:Aside0 (wr.heap.size≠go):=⟨hne⟩
       have HOW:=am (Kd.R_below HO.out hB4);have HBW:=am (below_step HB.out hB4);obtain ⟨k0,k1,k2,k3⟩:=set4 w2 wr.heap.size _ _ _ _ (.int .i64 (b4 q0 q1 q2 q3).1) (.int .i64 (b4 q0 q1 q2 q3).2.1) (.int .i64 (b4 q0 q1 q2 q3).2.2.1) (.int .i64 (b4 q0 q1 q2 q3).2.2.2) hc0 hc1 hc2 hc3;exact tail_ _ _ hn4 HOW HBW k0 k1 k2 k3
     case tail2 =>
      intro W4 bk4 hn4 HOW HBW k0 k1 k2 k3;clear hx0 hx1 hx2 hx3 hd0 hd1 hd2 hd3 hne hlt HO HB;go_wp2;go_loopg [71] 4 (fun kq v71 w'=>∃ (m:Nat) (i:Int),v71=.int .i64 i∧Aside0 (kq + m=4∧i=m)∧Aside0 (Kd.R (Kd.int .i64) 3 w' w.heap.size (fun _=>True) (.slice (some ⟨go,0,none⟩) 16 co) (setsT X 1 (b4 q0 q1 q2 q3) m))∧Aside0 (Below w.heap.size w w'))
      case atStart=>exact ⟨0,0,rfl,⟨rfl,rfl⟩,HOW,HBW⟩
      case round =>
       clear HOW HBW k0 k1 k2 k3;obtain ⟨m,i,rfl,HN2,HO,HB⟩:=hrel;have hm:m=4∨m=0∨m=1∨m=2∨m=3:=by have:=HN2.out.1;omega
       rcases hm with rfl | hm
       ·obtain rfl:i=4:=by have:=HN2.out.2;omega
        have hfin:setsT X 1 (b4 q0 q1 q2 q3) 4=colsT b4 Y 2:=by rw [← hq0.out,← hq1.out,← hq2.out,← hq3.out,hX.out];rfl
        rw [hfin] at HO;clear hfin;go_wp2;go_roundg 2;case measure=>decide
        case rel=>exact ⟨2,2,rfl,⟨by decide,by decide⟩,HO,HB⟩
       rcases hm with rfl | hm
       ·obtain rfl:i=0:=by have:=HN2.out.2;omega
        obtain rfl:gk=4:=by have:=HN2.out.1;omega
        obtain ⟨hx0,hf0⟩:wr.cell? ⟨go,1,none⟩=some (.int .i64 (rd (setsT X 1 (b4 q0 q1 q2 q3) 0) 1))∧wr.frozen? ⟨go,1,none⟩=false:=Kd.R_celln 0 HO.out 1 (by decide) (by decide);have HO5:=am (Kd.R_putg HO.out 1 ((b4 q0 q1 q2 q3).1)).1;have HB5:=am (below_set (j:=1) (v:=.int .i64 (b4 q0 q1 q2 q3).1) HB.out gb);have e1:IntKind.i64.wrap (4 * 0)=0:=rfl;have g1:IntKind.i64.wrap 0=0:=rfl;have e2:IntKind.i64.wrap (1 + 0)=1:=rfl;have g2:IntKind.i64.wrap 1=1:=rfl;have hix:∀ W,(Instr.index 98 (.agg #[.int .i64 (b4 q0 q1 q2 q3).1,.int .i64 (b4 q0 q1 q2 q3).2.1,.int .i64 (b4 q0 q1 q2 q3).2.2.1,.int .i64 (b4 q0 q1 q2 q3).2.2.2]) (.int .i64 0)).run Tryz.prog W=.ok (.int .i64 (b4 q0 q1 q2 q3).1) W:=fun W=>(index4 W _ _ _ _).1
        go_wp2;go_roundg 3;case measure=>decide
        case rel=>exact ⟨1,1,rfl,⟨by decide,by decide⟩,HO5,HB5⟩
       rcases hm with rfl | hm
       ·obtain rfl:i=1:=by have:=HN2.out.2;omega
        obtain rfl:gk=3:=by have:=HN2.out.1;omega
        obtain ⟨hx0,hf0⟩:wr.cell? ⟨go,5,none⟩=some (.int .i64 (rd (setsT X 1 (b4 q0 q1 q2 q3) 1) 5))∧wr.frozen? ⟨go,5,none⟩=false:=Kd.R_celln 0 HO.out 5 (by decide) (by decide);have HO5:=am (Kd.R_putg HO.out 5 ((b4 q0 q1 q2 q3).2.1)).1;have HB5:=am (below_set (j:=5) (v:=.int .i64 (b4 q0 q1 q2 q3).2.1) HB.out gb);have e1:IntKind.i64.wrap (4 * 1)=4:=rfl;have g1:IntKind.i64.wrap 4=4:=rfl;have e2:IntKind.i64.wrap (1 + 4)=5:=rfl;have g2:IntKind.i64.wrap 5=5:=rfl;have hix:∀ W,(Instr.index 98 (.agg #[.int .i64 (b4 q0 q1 q2 q3).1,.int .i64 (b4 q0 q1 q2 q3).2.1,.int .i64 (b4 q0 q1 q2 q3).2.2.1,.int .i64 (b4 q0 q1 q2 q3).2.2.2]) (.int .i64 1)).run Tryz.prog W=.ok (.int .i64 (b4 q0 q1 q2 q3).2.1) W:=fun W=>(index4 W _ _ _ _).2.1
        go_wp2;go_roundg 2;case measure=>decide
        case rel=>exact ⟨2,2,rfl,⟨by decide,by decide⟩,HO5,HB5⟩
       rcases hm with rfl | hm
       ·obtain rfl:i=2:=by have:=HN2.out.2;omega
        obtain rfl:gk=2:=by have:=HN2.out.1;omega
        obtain ⟨hx0,hf0⟩:wr.cell? ⟨go,9,none⟩=some (.int .i64 (rd (setsT X 1 (b4 q0 q1 q2 q3) 2) 9))∧wr.frozen? ⟨go,9,none⟩=false:=Kd.R_celln 0 HO.out 9 (by decide) (by decide);have HO5:=am (Kd.R_putg HO.out 9 ((b4 q0 q1 q2 q3).2.2.1)).1;have HB5:=am (below_set (j:=9) (v:=.int .i64 (b4 q0 q1 q2 q3).2.2.1) HB.out gb);have e1:IntKind.i64.wrap (4 * 2)=8:=rfl;have g1:IntKind.i64.wrap 8=8:=rfl;have e2:IntKind.i64.wrap (1 + 8)=9:=rfl;have g2:IntKind.i64.wrap 9=9:=rfl;have hix:∀ W,(Instr.index 98 (.agg #[.int .i64 (b4 q0 q1 q2 q3).1,.int .i64 (b4 q0 q1 q2 q3).2.1,.int .i64 (b4 q0 q1 q2 q3).2.2.1,.int .i64 (b4 q0 q1 q2 q3).2.2.2]) (.int .i64 2)).run Tryz.prog W=.ok (.int .i64 (b4 q0 q1 q2 q3).2.2.1) W:=fun W=>(index4 W _ _ _ _).2.2.1
        go_wp2;go_roundg 1;case measure=>decide
        case rel=>exact ⟨3,3,rfl,⟨by decide,by decide⟩,HO5,HB5⟩
       obtain rfl:=hm
       ·obtain rfl:i=3:=by have:=HN2.out.2;omega
        obtain rfl:gk=1:=by have:=HN2.out.1;omega
        obtain ⟨hx0,hf0⟩:wr.cell? ⟨go,13,none⟩=some (.int .i64 (rd (setsT X 1 (b4 q0 q1 q2 q3) 3) 13))∧wr.frozen? ⟨go,13,none⟩=false:=Kd.R_celln 0 HO.out 13 (by decide) (by decide);have HO5:=am (Kd.R_putg HO.out 13 ((b4 q0 q1 q2 q3).2.2.2)).1;have HB5:=am (below_set (j:=13) (v:=.int .i64 (b4 q0 q1 q2 q3).2.2.2) HB.out gb);have e1:IntKind.i64.wrap (4 * 3)=12:=rfl;have g1:IntKind.i64.wrap 12=12:=rfl;have e2:IntKind.i64.wrap (1 + 12)=13:=rfl;have g2:IntKind.i64.wrap 13=13:=rfl;have hix:∀ W,(Instr.index 98 (.agg #[.int .i64 (b4 q0 q1 q2 q3).1,.int .i64 (b4 q0 q1 q2 q3).2.1,.int .i64 (b4 q0 q1 q2 q3).2.2.1,.int .i64 (b4 q0 q1 q2 q3).2.2.2]) (.int .i64 3)).run Tryz.prog W=.ok (.int .i64 (b4 q0 q1 q2 q3).2.2.2) W:=fun W=>(index4 W _ _ _ _).2.2.2
        go_wp2;go_roundg 0;case measure=>decide
        case rel=>exact ⟨4,4,rfl,⟨by decide,by decide⟩,HO5,HB5⟩
    rcases hn with rfl | hn
    ·obtain rfl:gk=2:=by have:=HM.out.1;omega
     obtain rfl:c=2:=by have:=HM.out.2;omega
     obtain ⟨X,hX⟩:∃ X,X=colsT b4 Y 2:=⟨_,rfl⟩
     rw [← hX] at HO;replace hX:=am hX;have hx0:wr.cell? ⟨go,2,none⟩=some (.int .i64 (rd X 2)):=(Kd.R_celln 0 HO.out 2 (by decide) (by decide)).1;have hx1:wr.cell? ⟨go,6,none⟩=some (.int .i64 (rd X 6)):=(Kd.R_celln 0 HO.out 6 (by decide) (by decide)).1;have hx2:wr.cell? ⟨go,10,none⟩=some (.int .i64 (rd X 10)):=(Kd.R_celln 0 HO.out 10 (by decide) (by decide)).1;have hx3:wr.cell? ⟨go,14,none⟩=some (.int .i64 (rd X 14)):=(Kd.R_celln 0 HO.out 14 (by decide) (by decide)).1;generalize hq0:rd X 2=q0 at hx0;generalize hq1:rd X 6=q1 at hx1;generalize hq2:rd X 10=q2 at hx2;generalize hq3:rd X 14=q3 at hx3;replace hq0:=am hq0;replace hq1:=am hq1;replace hq2:=am hq2;replace hq3:=am hq3;have hd0:wr.drew.cell? ⟨go,2,none⟩=some (.int .i64 q0):=hx0;have hd1:wr.drew.cell? ⟨go,6,none⟩=some (.int .i64 q1):=hx1;have hd2:wr.drew.cell? ⟨go,10,none⟩=some (.int .i64 q2):=hx2;have hd3:wr.drew.cell? ⟨go,14,none⟩=some (.int .i64 q3):=hx3;have e1:IntKind.i64.wrap (2 + 4)=6:=rfl;have g1:IntKind.i64.wrap 6=6:=rfl;have e2:IntKind.i64.wrap (2 + 8)=10:=rfl;have g2:IntKind.i64.wrap 10=10:=rfl;have e3:IntKind.i64.wrap (2 + 12)=14:=rfl;have g3:IntKind.i64.wrap 14=14:=rfl;have hlt:=World.block_lt_of_cell? wr _ hx0;have hne:¬ (wr.heap.size=go):=by simp at hlt;omega
     go_wp2;refine share4 (G:=?G3) (fun tail_=>?main3) ?tail3;case main3 =>
      go_region_held3 (fun W=>W.cell? ⟨go,2,none⟩=some (.int .i64 q0)∧W.cell? ⟨go,6,none⟩=some (.int .i64 q1)∧W.cell? ⟨go,10,none⟩=some (.int .i64 q2)∧W.cell? ⟨go,14,none⟩=some (.int .i64 q3)) ((with_reducible ((repeat' apply And.intro) <;> (exact qd)))) (first|(go_at_call 88;refine (b4.calls _ _ _ _ _).mono ?_;rintro e w2 ⟨rfl,hb2⟩;(first|(have hz:w2.heap[wr.heap.size]?=some (.cells #[.int .i64 0,.int .i64 0,.int .i64 0,.int .i64 0] 98):=(hb2.block wr.heap.size (by simp)).trans (heap_alloc_new wr.drew _);obtain ⟨hc0,hc1,hc2,hc3,hf0,hf1,hf2,hf3⟩:=cl4 ⟨hz⟩;clear hz;replace hb2:Below wr.heap.size wr w2:=below_step (below_drew (below_alloc (Below.refl wr.heap.size wr) _)) hb2)|(replace hb2:Below wr.heap.size wr w2:=below_step (below_drew (Below.refl wr.heap.size wr)) hb2))))
      ·have hB4:=below_alloc hb2 (.cells #[.int .i64 (b4 q0 q1 q2 q3).1,.int .i64 (b4 q0 q1 q2 q3).2.1,.int .i64 (b4 q0 q1 q2 q3).2.2.1,.int .i64 (b4 q0 q1 q2 q3).2.2.2] 98);have hn4:Aside0 (w2.heap.size≠go):=⟨by have:=hb2.size;have h2_:=World.block_lt_of_cell? wr _ hx0;simp at this h2_;omega⟩
       have HOW:=am (Kd.R_below HO.out hB4);have HBW:=am (below_step HB.out hB4);obtain ⟨k0,k1,k2,k3⟩:=new4 w2 (.int .i64 (b4 q0 q1 q2 q3).1) (.int .i64 (b4 q0 q1 q2 q3).2.1) (.int .i64 (b4 q0 q1 q2 q3).2.2.1) (.int .i64 (b4 q0 q1 q2 q3).2.2.2);revert HOW HBW hn4 k0 k1 k2 k3;generalize w2.alloc _=W4;generalize w2.heap.size=bk4;intro hn4 HOW HBW k0 k1 k2 k3;revert hn4 HOW HBW k0 k1 k2 k3;revert bk4;revert W4;exact tail_
      ·have hB4:Below wr.heap.size wr ((((w2.setCell ⟨wr.heap.size,0,none⟩ (.int .i64 (b4 q0 q1 q2 q3).1)).setCell ⟨wr.heap.size,1,none⟩ (.int .i64 (b4 q0 q1 q2 q3).2.1)).setCell ⟨wr.heap.size,2,none⟩ (.int .i64 (b4 q0 q1 q2 q3).2.2.1)).setCell ⟨wr.heap.size,3,none⟩ (.int .i64 (b4 q0 q1 q2 q3).2.2.2)):=below_set (below_set (below_set (below_set hb2 (Nat.le_refl _)) (Nat.le_refl _)) (Nat.le_refl _)) (Nat.le_refl _);have hn4:Aside0 (wr.heap.size≠go):=⟨hne⟩
       have HOW:=am (Kd.R_below HO.out hB4);have HBW:=am (below_step HB.out hB4);obtain ⟨k0,k1,k2,k3⟩:=set4 w2 wr.heap.size _ _ _ _ (.int .i64 (b4 q0 q1 q2 q3).1) (.int .i64 (b4 q0 q1 q2 q3).2.1) (.int .i64 (b4 q0 q1 q2 q3).2.2.1) (.int .i64 (b4 q0 q1 q2 q3).2.2.2) hc0 hc1 hc2 hc3;exact tail_ _ _ hn4 HOW HBW k0 k1 k2 k3
     case tail3 =>
      intro W4 bk4 hn4 HOW HBW k0 k1 k2 k3;clear hx0 hx1 hx2 hx3 hd0 hd1 hd2 hd3 hne hlt HO HB;go_wp2;go_loopg [71] 4 (fun kq v71 w'=>∃ (m:Nat) (i:Int),v71=.int .i64 i∧Aside0 (kq + m=4∧i=m)∧Aside0 (Kd.R (Kd.int .i64) 3 w' w.heap.size (fun _=>True) (.slice (some ⟨go,0,none⟩) 16 co) (setsT X 2 (b4 q0 q1 q2 q3) m))∧Aside0 (Below w.heap.size w w'))
      case atStart=>exact ⟨0,0,rfl,⟨rfl,rfl⟩,HOW,HBW⟩
      case round =>
       clear HOW HBW k0 k1 k2 k3;obtain ⟨m,i,rfl,HN2,HO,HB⟩:=hrel;have hm:m=4∨m=0∨m=1∨m=2∨m=3:=by have:=HN2.out.1;omega
       rcases hm with rfl | hm
       ·obtain rfl:i=4:=by have:=HN2.out.2;omega
        have hfin:setsT X 2 (b4 q0 q1 q2 q3) 4=colsT b4 Y 3:=by rw [← hq0.out,← hq1.out,← hq2.out,← hq3.out,hX.out];rfl
        rw [hfin] at HO;clear hfin;go_wp2;go_roundg 1;case measure=>decide
        case rel=>exact ⟨3,3,rfl,⟨by decide,by decide⟩,HO,HB⟩
       rcases hm with rfl | hm
       ·obtain rfl:i=0:=by have:=HN2.out.2;omega
        obtain rfl:gk=4:=by have:=HN2.out.1;omega
        obtain ⟨hx0,hf0⟩:wr.cell? ⟨go,2,none⟩=some (.int .i64 (rd (setsT X 2 (b4 q0 q1 q2 q3) 0) 2))∧wr.frozen? ⟨go,2,none⟩=false:=Kd.R_celln 0 HO.out 2 (by decide) (by decide);have HO5:=am (Kd.R_putg HO.out 2 ((b4 q0 q1 q2 q3).1)).1;have HB5:=am (below_set (j:=2) (v:=.int .i64 (b4 q0 q1 q2 q3).1) HB.out gb);have e1:IntKind.i64.wrap (4 * 0)=0:=rfl;have g1:IntKind.i64.wrap 0=0:=rfl;have e2:IntKind.i64.wrap (2 + 0)=2:=rfl;have g2:IntKind.i64.wrap 2=2:=rfl;have hix:∀ W,(Instr.index 98 (.agg #[.int .i64 (b4 q0 q1 q2 q3).1,.int .i64 (b4 q0 q1 q2 q3).2.1,.int .i64 (b4 q0 q1 q2 q3).2.2.1,.int .i64 (b4 q0 q1 q2 q3).2.2.2]) (.int .i64 0)).run Tryz.prog W=.ok (.int .i64 (b4 q0 q1 q2 q3).1) W:=fun W=>(index4 W _ _ _ _).1
        go_wp2;go_roundg 3;case measure=>decide
        case rel=>exact ⟨1,1,rfl,⟨by decide,by decide⟩,HO5,HB5⟩
       rcases hm with rfl | hm
       ·obtain rfl:i=1:=by have:=HN2.out.2;omega
        obtain rfl:gk=3:=by have:=HN2.out.1;omega
        obtain ⟨hx0,hf0⟩:wr.cell? ⟨go,6,none⟩=some (.int .i64 (rd (setsT X 2 (b4 q0 q1 q2 q3) 1) 6))∧wr.frozen? ⟨go,6,none⟩=false:=Kd.R_celln 0 HO.out 6 (by decide) (by decide);have HO5:=am (Kd.R_putg HO.out 6 ((b4 q0 q1 q2 q3).2.1)).1;have HB5:=am (below_set (j:=6) (v:=.int .i64 (b4 q0 q1 q2 q3).2.1) HB.out gb);have e1:IntKind.i64.wrap (4 * 1)=4:=rfl;have g1:IntKind.i64.wrap 4=4:=rfl;have e2:IntKind.i64.wrap (2 + 4)=6:=rfl;have g2:IntKind.i64.wrap 6=6:=rfl;have hix:∀ W,(Instr.index 98 (.agg #[.int .i64 (b4 q0 q1 q2 q3).1,.int .i64 (b4 q0 q1 q2 q3).2.1,.int .i64 (b4 q0 q1 q2 q3).2.2.1,.int .i64 (b4 q0 q1 q2 q3).2.2.2]) (.int .i64 1)).run Tryz.prog W=.ok (.int .i64 (b4 q0 q1 q2 q3).2.1) W:=fun W=>(index4 W _ _ _ _).2.1
        go_wp2;go_roundg 2;case measure=>decide
        case rel=>exact ⟨2,2,rfl,⟨by decide,by decide⟩,HO5,HB5⟩
       rcases hm with rfl | hm
       ·obtain rfl:i=2:=by have:=HN2.out.2;omega
        obtain rfl:gk=2:=by have:=HN2.out.1;omega
        obtain ⟨hx0,hf0⟩:wr.cell? ⟨go,10,none⟩=some (.int .i64 (rd (setsT X 2 (b4 q0 q1 q2 q3) 2) 10))∧wr.frozen? ⟨go,10,none⟩=false:=Kd.R_celln 0 HO.out 10 (by decide) (by decide);have HO5:=am (Kd.R_putg HO.out 10 ((b4 q0 q1 q2 q3).2.2.1)).1;have HB5:=am (below_set (j:=10) (v:=.int .i64 (b4 q0 q1 q2 q3).2.2.1) HB.out gb);have e1:IntKind.i64.wrap (4 * 2)=8:=rfl;have g1:IntKind.i64.wrap 8=8:=rfl;have e2:IntKind.i64.wrap (2 + 8)=10:=rfl;have g2:IntKind.i64.wrap 10=10:=rfl;have hix:∀ W,(Instr.index 98 (.agg #[.int .i64 (b4 q0 q1 q2 q3).1,.int .i64 (b4 q0 q1 q2 q3).2.1,.int .i64 (b4 q0 q1 q2 q3).2.2.1,.int .i64 (b4 q0 q1 q2 q3).2.2.2]) (.int .i64 2)).run Tryz.prog W=.ok (.int .i64 (b4 q0 q1 q2 q3).2.2.1) W:=fun W=>(index4 W _ _ _ _).2.2.1
        go_wp2;go_roundg 1;case measure=>decide
        case rel=>exact ⟨3,3,rfl,⟨by decide,by decide⟩,HO5,HB5⟩
       obtain rfl:=hm
       ·obtain rfl:i=3:=by have:=HN2.out.2;omega
        obtain rfl:gk=1:=by have:=HN2.out.1;omega
        obtain ⟨hx0,hf0⟩:wr.cell? ⟨go,14,none⟩=some (.int .i64 (rd (setsT X 2 (b4 q0 q1 q2 q3) 3) 14))∧wr.frozen? ⟨go,14,none⟩=false:=Kd.R_celln 0 HO.out 14 (by decide) (by decide);have HO5:=am (Kd.R_putg HO.out 14 ((b4 q0 q1 q2 q3).2.2.2)).1;have HB5:=am (below_set (j:=14) (v:=.int .i64 (b4 q0 q1 q2 q3).2.2.2) HB.out gb);have e1:IntKind.i64.wrap (4 * 3)=12:=rfl;have g1:IntKind.i64.wrap 12=12:=rfl;have e2:IntKind.i64.wrap (2 + 12)=14:=rfl;have g2:IntKind.i64.wrap 14=14:=rfl;have hix:∀ W,(Instr.index 98 (.agg #[.int .i64 (b4 q0 q1 q2 q3).1,.int .i64 (b4 q0 q1 q2 q3).2.1,.int .i64 (b4 q0 q1 q2 q3).2.2.1,.int .i64 (b4 q0 q1 q2 q3).2.2.2]) (.int .i64 3)).run Tryz.prog W=.ok (.int .i64 (b4 q0 q1 q2 q3).2.2.2) W:=fun W=>(index4 W _ _ _ _).2.2.2
        go_wp2;go_roundg 0;case measure=>decide
        case rel=>exact ⟨4,4,rfl,⟨by decide,by decide⟩,HO5,HB5⟩
    obtain rfl:=hn
    ·obtain rfl:gk=1:=by have:=HM.out.1;omega
     obtain rfl:c=3:=by have:=HM.out.2;omega
     obtain ⟨X,hX⟩:∃ X,X=colsT b4 Y 3:=⟨_,rfl⟩
     rw [← hX] at HO;replace hX:=am hX;have hx0:wr.cell? ⟨go,3,none⟩=some (.int .i64 (rd X 3)):=(Kd.R_celln 0 HO.out 3 (by decide) (by decide)).1;have hx1:wr.cell? ⟨go,7,none⟩=some (.int .i64 (rd X 7)):=(Kd.R_celln 0 HO.out 7 (by decide) (by decide)).1;have hx2:wr.cell? ⟨go,11,none⟩=some (.int .i64 (rd X 11)):=(Kd.R_celln 0 HO.out 11 (by decide) (by decide)).1;have hx3:wr.cell? ⟨go,15,none⟩=some (.int .i64 (rd X 15)):=(Kd.R_celln 0 HO.out 15 (by decide) (by decide)).1;generalize hq0:rd X 3=q0 at hx0;generalize hq1:rd X 7=q1 at hx1;generalize hq2:rd X 11=q2 at hx2;generalize hq3:rd X 15=q3 at hx3;replace hq0:=am hq0;replace hq1:=am hq1;replace hq2:=am hq2;replace hq3:=am hq3;have hd0:wr.drew.cell? ⟨go,3,none⟩=some (.int .i64 q0):=hx0;have hd1:wr.drew.cell? ⟨go,7,none⟩=some (.int .i64 q1):=hx1;have hd2:wr.drew.cell? ⟨go,11,none⟩=some (.int .i64 q2):=hx2;have hd3:wr.drew.cell? ⟨go,15,none⟩=some (.int .i64 q3):=hx3;have e1:IntKind.i64.wrap (3 + 4)=7:=rfl;have g1:IntKind.i64.wrap 7=7:=rfl;have e2:IntKind.i64.wrap (3 + 8)=11:=rfl;have g2:IntKind.i64.wrap 11=11:=rfl;have e3:IntKind.i64.wrap (3 + 12)=15:=rfl;have g3:IntKind.i64.wrap 15=15:=rfl;have hlt:=World.block_lt_of_cell? wr _ hx0;have hne:¬ (wr.heap.size=go):=by simp at hlt;omega
     go_wp2;refine share4 (G:=?G4) (fun tail_=>?main4) ?tail4;case main4 =>
      go_region_held3 (fun W=>W.cell? ⟨go,3,none⟩=some (.int .i64 q0)∧W.cell? ⟨go,7,none⟩=some (.int .i64 q1)∧W.cell? ⟨go,11,none⟩=some (.int .i64 q2)∧W.cell? ⟨go,15,none⟩=some (.int .i64 q3)) ((with_reducible ((repeat' apply And.intro) <;> (exact qd)))) (first|(go_at_call 88;refine (b4.calls _ _ _ _ _).mono ?_;rintro e w2 ⟨rfl,hb2⟩;(first|(have hz:w2.heap[wr.heap.size]?=some (.cells #[.int .i64 0,.int .i64 0,.int .i64 0,.int .i64 0] 98):=(hb2.block wr.heap.size (by simp)).trans (heap_alloc_new wr.drew _);obtain ⟨hc0,hc1,hc2,hc3,hf0,hf1,hf2,hf3⟩:=cl4 ⟨hz⟩;clear hz;replace hb2:Below wr.heap.size wr w2:=below_step (below_drew (below_alloc (Below.refl wr.heap.size wr) _)) hb2)|(replace hb2:Below wr.heap.size wr w2:=below_step (below_drew (Below.refl wr.heap.size wr)) hb2))))
      ·have hB4:=below_alloc hb2 (.cells #[.int .i64 (b4 q0 q1 q2 q3).1,.int .i64 (b4 q0 q1 q2 q3).2.1,.int .i64 (b4 q0 q1 q2 q3).2.2.1,.int .i64 (b4 q0 q1 q2 q3).2.2.2] 98);have hn4:Aside0 (w2.heap.size≠go):=⟨by have:=hb2.size;have h2_:=World.block_lt_of_cell? wr _ hx0;simp at this h2_;omega⟩
       have HOW:=am (Kd.R_below HO.out hB4);have HBW:=am (below_step HB.out hB4);obtain ⟨k0,k1,k2,k3⟩:=new4 w2 (.int .i64 (b4 q0 q1 q2 q3).1) (.int .i64 (b4 q0 q1 q2 q3).2.1) (.int .i64 (b4 q0 q1 q2 q3).2.2.1) (.int .i64 (b4 q0 q1 q2 q3).2.2.2);revert HOW HBW hn4 k0 k1 k2 k3;generalize w2.alloc _=W4;generalize w2.heap.size=bk4;intro hn4 HOW HBW k0 k1 k2 k3;revert hn4 HOW HBW k0 k1 k2 k3;revert bk4;revert W4;exact tail_
      ·have hB4:Below wr.heap.size wr ((((w2.setCell ⟨wr.heap.size,0,none⟩ (.int .i64 (b4 q0 q1 q2 q3).1)).setCell ⟨wr.heap.size,1,none⟩ (.int .i64 (b4 q0 q1 q2 q3).2.1)).setCell ⟨wr.heap.size,2,none⟩ (.int .i64 (b4 q0 q1 q2 q3).2.2.1)).setCell ⟨wr.heap.size,3,none⟩ (.int .i64 (b4 q0 q1 q2 q3).2.2.2)):=below_set (below_set (below_set (below_set hb2 (Nat.le_refl _)) (Nat.le_refl _)) (Nat.le_refl _)) (Nat.le_refl _);have hn4:Aside0 (wr.heap.size≠go):=⟨hne⟩
       have HOW:=am (Kd.R_below HO.out hB4);have HBW:=am (below_step HB.out hB4);obtain ⟨k0,k1,k2,k3⟩:=set4 w2 wr.heap.size _ _ _ _ (.int .i64 (b4 q0 q1 q2 q3).1) (.int .i64 (b4 q0 q1 q2 q3).2.1) (.int .i64 (b4 q0 q1 q2 q3).2.2.1) (.int .i64 (b4 q0 q1 q2 q3).2.2.2) hc0 hc1 hc2 hc3;exact tail_ _ _ hn4 HOW HBW k0 k1 k2 k3
     case tail4 =>
      intro W4 bk4 hn4 HOW HBW k0 k1 k2 k3;clear hx0 hx1 hx2 hx3 hd0 hd1 hd2 hd3 hne hlt HO HB;go_wp2;go_loopg [71] 4 (fun kq v71 w'=>∃ (m:Nat) (i:Int),v71=.int .i64 i∧Aside0 (kq + m=4∧i=m)∧Aside0 (Kd.R (Kd.int .i64) 3 w' w.heap.size (fun _=>True) (.slice (some ⟨go,0,none⟩) 16 co) (setsT X 3 (b4 q0 q1 q2 q3) m))∧Aside0 (Below w.heap.size w w'))
      case atStart=>exact ⟨0,0,rfl,⟨rfl,rfl⟩,HOW,HBW⟩
      case round =>
       clear HOW HBW k0 k1 k2 k3;obtain ⟨m,i,rfl,HN2,HO,HB⟩:=hrel;have hm:m=4∨m=0∨m=1∨m=2∨m=3:=by have:=HN2.out.1;omega
       rcases hm with rfl | hm
       ·obtain rfl:i=4:=by have:=HN2.out.2;omega
        have hfin:setsT X 3 (b4 q0 q1 q2 q3) 4=colsT b4 Y 4:=by rw [← hq0.out,← hq1.out,← hq2.out,← hq3.out,hX.out];rfl
        rw [hfin] at HO;clear hfin;go_wp2;go_roundg 0;case measure=>decide
        case rel=>exact ⟨4,4,rfl,⟨by decide,by decide⟩,HO,HB⟩
       rcases hm with rfl | hm
       ·obtain rfl:i=0:=by have:=HN2.out.2;omega
        obtain rfl:gk=4:=by have:=HN2.out.1;omega
        obtain ⟨hx0,hf0⟩:wr.cell? ⟨go,3,none⟩=some (.int .i64 (rd (setsT X 3 (b4 q0 q1 q2 q3) 0) 3))∧wr.frozen? ⟨go,3,none⟩=false:=Kd.R_celln 0 HO.out 3 (by decide) (by decide);have HO5:=am (Kd.R_putg HO.out 3 ((b4 q0 q1 q2 q3).1)).1;have HB5:=am (below_set (j:=3) (v:=.int .i64 (b4 q0 q1 q2 q3).1) HB.out gb);have e1:IntKind.i64.wrap (4 * 0)=0:=rfl;have g1:IntKind.i64.wrap 0=0:=rfl;have e2:IntKind.i64.wrap (3 + 0)=3:=rfl;have g2:IntKind.i64.wrap 3=3:=rfl;have hix:∀ W,(Instr.index 98 (.agg #[.int .i64 (b4 q0 q1 q2 q3).1,.int .i64 (b4 q0 q1 q2 q3).2.1,.int .i64 (b4 q0 q1 q2 q3).2.2.1,.int .i64 (b4 q0 q1 q2 q3).2.2.2]) (.int .i64 0)).run Tryz.prog W=.ok (.int .i64 (b4 q0 q1 q2 q3).1) W:=fun W=>(index4 W _ _ _ _).1
        go_wp2;go_roundg 3;case measure=>decide
        case rel=>exact ⟨1,1,rfl,⟨by decide,by decide⟩,HO5,HB5⟩
       rcases hm with rfl | hm
       ·obtain rfl:i=1:=by have:=HN2.out.2;omega
        obtain rfl:gk=3:=by have:=HN2.out.1;omega
        obtain ⟨hx0,hf0⟩:wr.cell? ⟨go,7,none⟩=some (.int .i64 (rd (setsT X 3 (b4 q0 q1 q2 q3) 1) 7))∧wr.frozen? ⟨go,7,none⟩=false:=Kd.R_celln 0 HO.out 7 (by decide) (by decide);have HO5:=am (Kd.R_putg HO.out 7 ((b4 q0 q1 q2 q3).2.1)).1;have HB5:=am (below_set (j:=7) (v:=.int .i64 (b4 q0 q1 q2 q3).2.1) HB.out gb);have e1:IntKind.i64.wrap (4 * 1)=4:=rfl;have g1:IntKind.i64.wrap 4=4:=rfl;have e2:IntKind.i64.wrap (3 + 4)=7:=rfl;have g2:IntKind.i64.wrap 7=7:=rfl;have hix:∀ W,(Instr.index 98 (.agg #[.int .i64 (b4 q0 q1 q2 q3).1,.int .i64 (b4 q0 q1 q2 q3).2.1,.int .i64 (b4 q0 q1 q2 q3).2.2.1,.int .i64 (b4 q0 q1 q2 q3).2.2.2]) (.int .i64 1)).run Tryz.prog W=.ok (.int .i64 (b4 q0 q1 q2 q3).2.1) W:=fun W=>(index4 W _ _ _ _).2.1
        go_wp2;go_roundg 2;case measure=>decide
        case rel=>exact ⟨2,2,rfl,⟨by decide,by decide⟩,HO5,HB5⟩
       rcases hm with rfl | hm
       ·obtain rfl:i=2:=by have:=HN2.out.2;omega
        obtain rfl:gk=2:=by have:=HN2.out.1;omega
        obtain ⟨hx0,hf0⟩:wr.cell? ⟨go,11,none⟩=some (.int .i64 (rd (setsT X 3 (b4 q0 q1 q2 q3) 2) 11))∧wr.frozen? ⟨go,11,none⟩=false:=Kd.R_celln 0 HO.out 11 (by decide) (by decide);have HO5:=am (Kd.R_putg HO.out 11 ((b4 q0 q1 q2 q3).2.2.1)).1;have HB5:=am (below_set (j:=11) (v:=.int .i64 (b4 q0 q1 q2 q3).2.2.1) HB.out gb);have e1:IntKind.i64.wrap (4 * 2)=8:=rfl;have g1:IntKind.i64.wrap 8=8:=rfl;have e2:IntKind.i64.wrap (3 + 8)=11:=rfl;have g2:IntKind.i64.wrap 11=11:=rfl;have hix:∀ W,(Instr.index 98 (.agg #[.int .i64 (b4 q0 q1 q2 q3).1,.int .i64 (b4 q0 q1 q2 q3).2.1,.int .i64 (b4 q0 q1 q2 q3).2.2.1,.int .i64 (b4 q0 q1 q2 q3).2.2.2]) (.int .i64 2)).run Tryz.prog W=.ok (.int .i64 (b4 q0 q1 q2 q3).2.2.1) W:=fun W=>(index4 W _ _ _ _).2.2.1
        go_wp2;go_roundg 1;case measure=>decide
        case rel=>exact ⟨3,3,rfl,⟨by decide,by decide⟩,HO5,HB5⟩
       obtain rfl:=hm
       ·obtain rfl:i=3:=by have:=HN2.out.2;omega
        obtain rfl:gk=1:=by have:=HN2.out.1;omega
        obtain ⟨hx0,hf0⟩:wr.cell? ⟨go,15,none⟩=some (.int .i64 (rd (setsT X 3 (b4 q0 q1 q2 q3) 3) 15))∧wr.frozen? ⟨go,15,none⟩=false:=Kd.R_celln 0 HO.out 15 (by decide) (by decide);have HO5:=am (Kd.R_putg HO.out 15 ((b4 q0 q1 q2 q3).2.2.2)).1;have HB5:=am (below_set (j:=15) (v:=.int .i64 (b4 q0 q1 q2 q3).2.2.2) HB.out gb);have e1:IntKind.i64.wrap (4 * 3)=12:=rfl;have g1:IntKind.i64.wrap 12=12:=rfl;have e2:IntKind.i64.wrap (3 + 12)=15:=rfl;have g2:IntKind.i64.wrap 15=15:=rfl;have hix:∀ W,(Instr.index 98 (.agg #[.int .i64 (b4 q0 q1 q2 q3).1,.int .i64 (b4 q0 q1 q2 q3).2.1,.int .i64 (b4 q0 q1 q2 q3).2.2.1,.int .i64 (b4 q0 q1 q2 q3).2.2.2]) (.int .i64 3)).run Tryz.prog W=.ok (.int .i64 (b4 q0 q1 q2 q3).2.2.2) W:=fun W=>(index4 W _ _ _ _).2.2.2
        go_wp2;go_roundg 0;case measure=>decide
        case rel=>exact ⟨4,4,rfl,⟨by decide,by decide⟩,HO5,HB5⟩
  rcases hn with rfl | hn
  ·obtain rfl:gk=4:=by have:=HN.out.1;omega
   obtain rfl:r=0:=by have:=HN.out.2;omega
   obtain ⟨X,hX⟩:∃ X,X=rowsT b4 l0 0:=⟨_,rfl⟩
   rw [← hX] at HO;replace hX:=am hX;have hx0:wr.cell? ⟨go,0,none⟩=some (.int .i64 (rd X 0)):=(Kd.R_celln 0 HO.out 0 (by decide) (by decide)).1;have hx1:wr.cell? ⟨go,1,none⟩=some (.int .i64 (rd X 1)):=(Kd.R_celln 0 HO.out 1 (by decide) (by decide)).1;have hx2:wr.cell? ⟨go,2,none⟩=some (.int .i64 (rd X 2)):=(Kd.R_celln 0 HO.out 2 (by decide) (by decide)).1;have hx3:wr.cell? ⟨go,3,none⟩=some (.int .i64 (rd X 3)):=(Kd.R_celln 0 HO.out 3 (by decide) (by decide)).1;generalize hq0:rd X 0=q0 at hx0;generalize hq1:rd X 1=q1 at hx1;generalize hq2:rd X 2=q2 at hx2;generalize hq3:rd X 3=q3 at hx3;replace hq0:=am hq0;replace hq1:=am hq1;replace hq2:=am hq2;replace hq3:=am hq3;have hd0:wr.drew.cell? ⟨go,0,none⟩=some (.int .i64 q0):=hx0;have hd1:wr.drew.cell? ⟨go,1,none⟩=some (.int .i64 q1):=hx1;have hd2:wr.drew.cell? ⟨go,2,none⟩=some (.int .i64 q2):=hx2;have hd3:wr.drew.cell? ⟨go,3,none⟩=some (.int .i64 q3):=hx3;have e1:IntKind.i64.wrap (0 + 1)=1:=rfl;have g1:IntKind.i64.wrap 1=1:=rfl;have e2:IntKind.i64.wrap (0 + 2)=2:=rfl;have g2:IntKind.i64.wrap 2=2:=rfl;have e3:IntKind.i64.wrap (0 + 3)=3:=rfl;have g3:IntKind.i64.wrap 3=3:=rfl;have hlt:=World.block_lt_of_cell? wr _ hx0;have hne:¬ (wr.heap.size=go):=by simp at hlt;omega
   go_wp2;refine share4 (G:=?G5) (fun tail_=>?main5) ?tail5;case main5 =>
    go_region_held3 (fun W=>W.cell? ⟨go,0,none⟩=some (.int .i64 q0)∧W.cell? ⟨go,1,none⟩=some (.int .i64 q1)∧W.cell? ⟨go,2,none⟩=some (.int .i64 q2)∧W.cell? ⟨go,3,none⟩=some (.int .i64 q3)) ((with_reducible ((repeat' apply And.intro) <;> (exact qd)))) (first|(go_at_call 88;refine (b4.calls _ _ _ _ _).mono ?_;rintro e w2 ⟨rfl,hb2⟩;(first|(have hz:w2.heap[wr.heap.size]?=some (.cells #[.int .i64 0,.int .i64 0,.int .i64 0,.int .i64 0] 98):=(hb2.block wr.heap.size (by simp)).trans (heap_alloc_new wr.drew _);obtain ⟨hc0,hc1,hc2,hc3,hf0,hf1,hf2,hf3⟩:=cl4 ⟨hz⟩;clear hz;replace hb2:Below wr.heap.size wr w2:=below_step (below_drew (below_alloc (Below.refl wr.heap.size wr) _)) hb2)|(replace hb2:Below wr.heap.size wr w2:=below_step (below_drew (Below.refl wr.heap.size wr)) hb2))))
    ·have hB4:=below_alloc hb2 (.cells #[.int .i64 (b4 q0 q1 q2 q3).1,.int .i64 (b4 q0 q1 q2 q3).2.1,.int .i64 (b4 q0 q1 q2 q3).2.2.1,.int .i64 (b4 q0 q1 q2 q3).2.2.2] 98);have hn4:Aside0 (w2.heap.size≠go):=⟨by have:=hb2.size;have h2_:=World.block_lt_of_cell? wr _ hx0;simp at this h2_;omega⟩
     have HOW:=am (Kd.R_below HO.out hB4);have HBW:=am (below_step HB.out hB4);obtain ⟨k0,k1,k2,k3⟩:=new4 w2 (.int .i64 (b4 q0 q1 q2 q3).1) (.int .i64 (b4 q0 q1 q2 q3).2.1) (.int .i64 (b4 q0 q1 q2 q3).2.2.1) (.int .i64 (b4 q0 q1 q2 q3).2.2.2);revert HOW HBW hn4 k0 k1 k2 k3;generalize w2.alloc _=W4;generalize w2.heap.size=bk4;intro hn4 HOW HBW k0 k1 k2 k3;revert hn4 HOW HBW k0 k1 k2 k3;revert bk4;revert W4;exact tail_
    ·have hB4:Below wr.heap.size wr ((((w2.setCell ⟨wr.heap.size,0,none⟩ (.int .i64 (b4 q0 q1 q2 q3).1)).setCell ⟨wr.heap.size,1,none⟩ (.int .i64 (b4 q0 q1 q2 q3).2.1)).setCell ⟨wr.heap.size,2,none⟩ (.int .i64 (b4 q0 q1 q2 q3).2.2.1)).setCell ⟨wr.heap.size,3,none⟩ (.int .i64 (b4 q0 q1 q2 q3).2.2.2)):=below_set (below_set (below_set (below_set hb2 (Nat.le_refl _)) (Nat.le_refl _)) (Nat.le_refl _)) (Nat.le_refl _);have hn4:Aside0 (wr.heap.size≠go):=⟨hne⟩
     have HOW:=am (Kd.R_below HO.out hB4);have HBW:=am (below_step HB.out hB4);obtain ⟨k0,k1,k2,k3⟩:=set4 w2 wr.heap.size _ _ _ _ (.int .i64 (b4 q0 q1 q2 q3).1) (.int .i64 (b4 q0 q1 q2 q3).2.1) (.int .i64 (b4 q0 q1 q2 q3).2.2.1) (.int .i64 (b4 q0 q1 q2 q3).2.2.2) hc0 hc1 hc2 hc3;exact tail_ _ _ hn4 HOW HBW k0 k1 k2 k3
   case tail5 =>
    intro W4 bk4 hn4 HOW HBW k0 k1 k2 k3;clear hx0 hx1 hx2 hx3 hd0 hd1 hd2 hd3 hne hlt HO HB;have hfin:(((X.set 0 (b4 q0 q1 q2 q3).1).set 1 (b4 q0 q1 q2 q3).2.1).set 2 (b4 q0 q1 q2 q3).2.2.1).set 3 (b4 q0 q1 q2 q3).2.2.2=rowsT b4 l0 1:=by rw [← hq0.out,← hq1.out,← hq2.out,← hq3.out,hX.out];rfl
    have HO4:Kd.R (Kd.int .i64) 3 W4.drew w.heap.size (fun _=>True) (.slice (some ⟨go,0,none⟩) 16 co) X:=Kd.R_drew HOW.out;have HB4:Below w.heap.size w W4.drew:=below_drew HBW.out;have HO5:=am (put4 (w0:=w) HO4 0 (b4 q0 q1 q2 q3).1 (b4 q0 q1 q2 q3).2.1 (b4 q0 q1 q2 q3).2.2.1 (b4 q0 q1 q2 q3).2.2.2);have HB5:=am (below_put4 HB4 gb 0 (.int .i64 (b4 q0 q1 q2 q3).1) (.int .i64 (b4 q0 q1 q2 q3).2.1) (.int .i64 (b4 q0 q1 q2 q3).2.2.1) (.int .i64 (b4 q0 q1 q2 q3).2.2.2));rw [hfin] at HO5;clear hfin;have hcp:=copy4 HO4 0 (by decide) _ _ _ _ k0 k1 k2 k3;clear HO4 HB4;have hco:16≤co:=(Kd.R_reads' HOW.out).2.1;have hco1:(4:Int)≤(co:Int):=by omega
    have hco2:4≤co:=by omega
    have e4:IntKind.i64.wrap (0 + 4)=4:=rfl;have g4:IntKind.i64.wrap 4=4:=rfl;clear hco;go_wp2;go_region_held3 (fun W=>True) (trivial) (fail)
    go_wp2;go_roundg 3;case measure=>decide
    case rel=>exact ⟨1,4,rfl,⟨by decide,by decide⟩,HO5,HB5⟩
  rcases hn with rfl | hn
  ·obtain rfl:gk=3:=by have:=HN.out.1;omega
   obtain rfl:r=4:=by have:=HN.out.2;omega
   obtain ⟨X,hX⟩:∃ X,X=rowsT b4 l0 1:=⟨_,rfl⟩
   rw [← hX] at HO;replace hX:=am hX;have hx0:wr.cell? ⟨go,4,none⟩=some (.int .i64 (rd X 4)):=(Kd.R_celln 0 HO.out 4 (by decide) (by decide)).1;have hx1:wr.cell? ⟨go,5,none⟩=some (.int .i64 (rd X 5)):=(Kd.R_celln 0 HO.out 5 (by decide) (by decide)).1;have hx2:wr.cell? ⟨go,6,none⟩=some (.int .i64 (rd X 6)):=(Kd.R_celln 0 HO.out 6 (by decide) (by decide)).1;have hx3:wr.cell? ⟨go,7,none⟩=some (.int .i64 (rd X 7)):=(Kd.R_celln 0 HO.out 7 (by decide) (by decide)).1;generalize hq0:rd X 4=q0 at hx0;generalize hq1:rd X 5=q1 at hx1;generalize hq2:rd X 6=q2 at hx2;generalize hq3:rd X 7=q3 at hx3;replace hq0:=am hq0;replace hq1:=am hq1;replace hq2:=am hq2;replace hq3:=am hq3;have hd0:wr.drew.cell? ⟨go,4,none⟩=some (.int .i64 q0):=hx0;have hd1:wr.drew.cell? ⟨go,5,none⟩=some (.int .i64 q1):=hx1;have hd2:wr.drew.cell? ⟨go,6,none⟩=some (.int .i64 q2):=hx2;have hd3:wr.drew.cell? ⟨go,7,none⟩=some (.int .i64 q3):=hx3;have e1:IntKind.i64.wrap (4 + 1)=5:=rfl;have g1:IntKind.i64.wrap 5=5:=rfl;have e2:IntKind.i64.wrap (4 + 2)=6:=rfl;have g2:IntKind.i64.wrap 6=6:=rfl;have e3:IntKind.i64.wrap (4 + 3)=7:=rfl;have g3:IntKind.i64.wrap 7=7:=rfl;have hlt:=World.block_lt_of_cell? wr _ hx0;have hne:¬ (wr.heap.size=go):=by simp at hlt;omega
   go_wp2;refine share4 (G:=?G6) (fun tail_=>?main6) ?tail6;case main6 =>
    go_region_held3 (fun W=>W.cell? ⟨go,4,none⟩=some (.int .i64 q0)∧W.cell? ⟨go,5,none⟩=some (.int .i64 q1)∧W.cell? ⟨go,6,none⟩=some (.int .i64 q2)∧W.cell? ⟨go,7,none⟩=some (.int .i64 q3)) ((with_reducible ((repeat' apply And.intro) <;> (exact qd)))) (first|(go_at_call 88;refine (b4.calls _ _ _ _ _).mono ?_;rintro e w2 ⟨rfl,hb2⟩;(first|(have hz:w2.heap[wr.heap.size]?=some (.cells #[.int .i64 0,.int .i64 0,.int .i64 0,.int .i64 0] 98):=(hb2.block wr.heap.size (by simp)).trans (heap_alloc_new wr.drew _);obtain ⟨hc0,hc1,hc2,hc3,hf0,hf1,hf2,hf3⟩:=cl4 ⟨hz⟩;clear hz;replace hb2:Below wr.heap.size wr w2:=below_step (below_drew (below_alloc (Below.refl wr.heap.size wr) _)) hb2)|(replace hb2:Below wr.heap.size wr w2:=below_step (below_drew (Below.refl wr.heap.size wr)) hb2))))
    ·have hB4:=below_alloc hb2 (.cells #[.int .i64 (b4 q0 q1 q2 q3).1,.int .i64 (b4 q0 q1 q2 q3).2.1,.int .i64 (b4 q0 q1 q2 q3).2.2.1,.int .i64 (b4 q0 q1 q2 q3).2.2.2] 98);have hn4:Aside0 (w2.heap.size≠go):=⟨by have:=hb2.size;have h2_:=World.block_lt_of_cell? wr _ hx0;simp at this h2_;omega⟩
     have HOW:=am (Kd.R_below HO.out hB4);have HBW:=am (below_step HB.out hB4);obtain ⟨k0,k1,k2,k3⟩:=new4 w2 (.int .i64 (b4 q0 q1 q2 q3).1) (.int .i64 (b4 q0 q1 q2 q3).2.1) (.int .i64 (b4 q0 q1 q2 q3).2.2.1) (.int .i64 (b4 q0 q1 q2 q3).2.2.2);revert HOW HBW hn4 k0 k1 k2 k3;generalize w2.alloc _=W4;generalize w2.heap.size=bk4;intro hn4 HOW HBW k0 k1 k2 k3;revert hn4 HOW HBW k0 k1 k2 k3;revert bk4;revert W4;exact tail_
    ·have hB4:Below wr.heap.size wr ((((w2.setCell ⟨wr.heap.size,0,none⟩ (.int .i64 (b4 q0 q1 q2 q3).1)).setCell ⟨wr.heap.size,1,none⟩ (.int .i64 (b4 q0 q1 q2 q3).2.1)).setCell ⟨wr.heap.size,2,none⟩ (.int .i64 (b4 q0 q1 q2 q3).2.2.1)).setCell ⟨wr.heap.size,3,none⟩ (.int .i64 (b4 q0 q1 q2 q3).2.2.2)):=below_set (below_set (below_set (below_set hb2 (Nat.le_refl _)) (Nat.le_refl _)) (Nat.le_refl _)) (Nat.le_refl _);have hn4:Aside0 (wr.heap.size≠go):=⟨hne⟩
     have HOW:=am (Kd.R_below HO.out hB4);have HBW:=am (below_step HB.out hB4);obtain ⟨k0,k1,k2,k3⟩:=set4 w2 wr.heap.size _ _ _ _ (.int .i64 (b4 q0 q1 q2 q3).1) (.int .i64 (b4 q0 q1 q2 q3).2.1) (.int .i64 (b4 q0 q1 q2 q3).2.2.1) (.int .i64 (b4 q0 q1 q2 q3).2.2.2) hc0 hc1 hc2 hc3;exact tail_ _ _ hn4 HOW HBW k0 k1 k2 k3
   case tail6 =>
    intro W4 bk4 hn4 HOW HBW k0 k1 k2 k3;clear hx0 hx1 hx2 hx3 hd0 hd1 hd2 hd3 hne hlt HO HB;have hfin:(((X.set 4 (b4 q0 q1 q2 q3).1).set 5 (b4 q0 q1 q2 q3).2.1).set 6 (b4 q0 q1 q2 q3).2.2.1).set 7 (b4 q0 q1 q2 q3).2.2.2=rowsT b4 l0 2:=by rw [← hq0.out,← hq1.out,← hq2.out,← hq3.out,hX.out];rfl
    have HO4:Kd.R (Kd.int .i64) 3 W4.drew w.heap.size (fun _=>True) (.slice (some ⟨go,0,none⟩) 16 co) X:=Kd.R_drew HOW.out;have HB4:Below w.heap.size w W4.drew:=below_drew HBW.out;have HO5:=am (put4 (w0:=w) HO4 4 (b4 q0 q1 q2 q3).1 (b4 q0 q1 q2 q3).2.1 (b4 q0 q1 q2 q3).2.2.1 (b4 q0 q1 q2 q3).2.2.2);have HB5:=am (below_put4 HB4 gb 4 (.int .i64 (b4 q0 q1 q2 q3).1) (.int .i64 (b4 q0 q1 q2 q3).2.1) (.int .i64 (b4 q0 q1 q2 q3).2.2.1) (.int .i64 (b4 q0 q1 q2 q3).2.2.2));rw [hfin] at HO5;clear hfin;have hcp:=copy4 HO4 4 (by decide) _ _ _ _ k0 k1 k2 k3;clear HO4 HB4;have hco:16≤co:=(Kd.R_reads' HOW.out).2.1;have hco1:(8:Int)≤(co:Int):=by omega
    have hco2:8≤co:=by omega
    have e4:IntKind.i64.wrap (4 + 4)=8:=rfl;have g4:IntKind.i64.wrap 8=8:=rfl;clear hco;go_wp2;go_region_held3 (fun W=>True) (trivial) (fail)
    go_wp2;go_roundg 2;case measure=>decide
    case rel=>exact ⟨2,8,rfl,⟨by decide,by decide⟩,HO5,HB5⟩
  rcases hn with rfl | hn
  ·obtain rfl:gk=2:=by have:=HN.out.1;omega
   obtain rfl:r=8:=by have:=HN.out.2;omega
   obtain ⟨X,hX⟩:∃ X,X=rowsT b4 l0 2:=⟨_,rfl⟩
   rw [← hX] at HO;replace hX:=am hX;have hx0:wr.cell? ⟨go,8,none⟩=some (.int .i64 (rd X 8)):=(Kd.R_celln 0 HO.out 8 (by decide) (by decide)).1;have hx1:wr.cell? ⟨go,9,none⟩=some (.int .i64 (rd X 9)):=(Kd.R_celln 0 HO.out 9 (by decide) (by decide)).1;have hx2:wr.cell? ⟨go,10,none⟩=some (.int .i64 (rd X 10)):=(Kd.R_celln 0 HO.out 10 (by decide) (by decide)).1;have hx3:wr.cell? ⟨go,11,none⟩=some (.int .i64 (rd X 11)):=(Kd.R_celln 0 HO.out 11 (by decide) (by decide)).1;generalize hq0:rd X 8=q0 at hx0;generalize hq1:rd X 9=q1 at hx1;generalize hq2:rd X 10=q2 at hx2;generalize hq3:rd X 11=q3 at hx3;replace hq0:=am hq0;replace hq1:=am hq1;replace hq2:=am hq2;replace hq3:=am hq3;have hd0:wr.drew.cell? ⟨go,8,none⟩=some (.int .i64 q0):=hx0;have hd1:wr.drew.cell? ⟨go,9,none⟩=some (.int .i64 q1):=hx1;have hd2:wr.drew.cell? ⟨go,10,none⟩=some (.int .i64 q2):=hx2;have hd3:wr.drew.cell? ⟨go,11,none⟩=some (.int .i64 q3):=hx3;have e1:IntKind.i64.wrap (8 + 1)=9:=rfl;have g1:IntKind.i64.wrap 9=9:=rfl;have e2:IntKind.i64.wrap (8 + 2)=10:=rfl;have g2:IntKind.i64.wrap 10=10:=rfl;have e3:IntKind.i64.wrap (8 + 3)=11:=rfl;have g3:IntKind.i64.wrap 11=11:=rfl;have hlt:=World.block_lt_of_cell? wr _ hx0;have hne:¬ (wr.heap.size=go):=by simp at hlt;omega
   go_wp2;refine share4 (G:=?G7) (fun tail_=>?main7) ?tail7;case main7 =>
    go_region_held3 (fun W=>W.cell? ⟨go,8,none⟩=some (.int .i64 q0)∧W.cell? ⟨go,9,none⟩=some (.int .i64 q1)∧W.cell? ⟨go,10,none⟩=some (.int .i64 q2)∧W.cell? ⟨go,11,none⟩=some (.int .i64 q3)) ((with_reducible ((repeat' apply And.intro) <;> (exact qd)))) (first|(go_at_call 88;refine (b4.calls _ _ _ _ _).mono ?_;rintro e w2 ⟨rfl,hb2⟩;(first|(have hz:w2.heap[wr.heap.size]?=some (.cells #[.int .i64 0,.int .i64 0,.int .i64 0,.int .i64 0] 98):=(hb2.block wr.heap.size (by simp)).trans (heap_alloc_new wr.drew _);obtain ⟨hc0,hc1,hc2,hc3,hf0,hf1,hf2,hf3⟩:=cl4 ⟨hz⟩;clear hz;replace hb2:Below wr.heap.size wr w2:=below_step (below_drew (below_alloc (Below.refl wr.heap.size wr) _)) hb2)|(replace hb2:Below wr.heap.size wr w2:=below_step (below_drew (Below.refl wr.heap.size wr)) hb2))))
    ·have hB4:=below_alloc hb2 (.cells #[.int .i64 (b4 q0 q1 q2 q3).1,.int .i64 (b4 q0 q1 q2 q3).2.1,.int .i64 (b4 q0 q1 q2 q3).2.2.1,.int .i64 (b4 q0 q1 q2 q3).2.2.2] 98);have hn4:Aside0 (w2.heap.size≠go):=⟨by have:=hb2.size;have h2_:=World.block_lt_of_cell? wr _ hx0;simp at this h2_;omega⟩
     have HOW:=am (Kd.R_below HO.out hB4);have HBW:=am (below_step HB.out hB4);obtain ⟨k0,k1,k2,k3⟩:=new4 w2 (.int .i64 (b4 q0 q1 q2 q3).1) (.int .i64 (b4 q0 q1 q2 q3).2.1) (.int .i64 (b4 q0 q1 q2 q3).2.2.1) (.int .i64 (b4 q0 q1 q2 q3).2.2.2);revert HOW HBW hn4 k0 k1 k2 k3;generalize w2.alloc _=W4;generalize w2.heap.size=bk4;intro hn4 HOW HBW k0 k1 k2 k3;revert hn4 HOW HBW k0 k1 k2 k3;revert bk4;revert W4;exact tail_
    ·have hB4:Below wr.heap.size wr ((((w2.setCell ⟨wr.heap.size,0,none⟩ (.int .i64 (b4 q0 q1 q2 q3).1)).setCell ⟨wr.heap.size,1,none⟩ (.int .i64 (b4 q0 q1 q2 q3).2.1)).setCell ⟨wr.heap.size,2,none⟩ (.int .i64 (b4 q0 q1 q2 q3).2.2.1)).setCell ⟨wr.heap.size,3,none⟩ (.int .i64 (b4 q0 q1 q2 q3).2.2.2)):=below_set (below_set (below_set (below_set hb2 (Nat.le_refl _)) (Nat.le_refl _)) (Nat.le_refl _)) (Nat.le_refl _);have hn4:Aside0 (wr.heap.size≠go):=⟨hne⟩
     have HOW:=am (Kd.R_below HO.out hB4);have HBW:=am (below_step HB.out hB4);obtain ⟨k0,k1,k2,k3⟩:=set4 w2 wr.heap.size _ _ _ _ (.int .i64 (b4 q0 q1 q2 q3).1) (.int .i64 (b4 q0 q1 q2 q3).2.1) (.int .i64 (b4 q0 q1 q2 q3).2.2.1) (.int .i64 (b4 q0 q1 q2 q3).2.2.2) hc0 hc1 hc2 hc3;exact tail_ _ _ hn4 HOW HBW k0 k1 k2 k3
   case tail7 =>
    intro W4 bk4 hn4 HOW HBW k0 k1 k2 k3;clear hx0 hx1 hx2 hx3 hd0 hd1 hd2 hd3 hne hlt HO HB;have hfin:(((X.set 8 (b4 q0 q1 q2 q3).1).set 9 (b4 q0 q1 q2 q3).2.1).set 10 (b4 q0 q1 q2 q3).2.2.1).set 11 (b4 q0 q1 q2 q3).2.2.2=rowsT b4 l0 3:=by rw [← hq0.out,← hq1.out,← hq2.out,← hq3.out,hX.out];rfl
    have HO4:Kd.R (Kd.int .i64) 3 W4.drew w.heap.size (fun _=>True) (.slice (some ⟨go,0,none⟩) 16 co) X:=Kd.R_drew HOW.out;have HB4:Below w.heap.size w W4.drew:=below_drew HBW.out;have HO5:=am (put4 (w0:=w) HO4 8 (b4 q0 q1 q2 q3).1 (b4 q0 q1 q2 q3).2.1 (b4 q0 q1 q2 q3).2.2.1 (b4 q0 q1 q2 q3).2.2.2);have HB5:=am (below_put4 HB4 gb 8 (.int .i64 (b4 q0 q1 q2 q3).1) (.int .i64 (b4 q0 q1 q2 q3).2.1) (.int .i64 (b4 q0 q1 q2 q3).2.2.1) (.int .i64 (b4 q0 q1 q2 q3).2.2.2));rw [hfin] at HO5;clear hfin;have hcp:=copy4 HO4 8 (by decide) _ _ _ _ k0 k1 k2 k3;clear HO4 HB4;have hco:16≤co:=(Kd.R_reads' HOW.out).2.1;have hco1:(12:Int)≤(co:Int):=by omega
    have hco2:12≤co:=by omega
    have e4:IntKind.i64.wrap (8 + 4)=12:=rfl;have g4:IntKind.i64.wrap 12=12:=rfl;clear hco;go_wp2;go_region_held3 (fun W=>True) (trivial) (fail)
    go_wp2;go_roundg 1;case measure=>decide
    case rel=>exact ⟨3,12,rfl,⟨by decide,by decide⟩,HO5,HB5⟩
  obtain rfl:=hn
  ·obtain rfl:gk=1:=by have:=HN.out.1;omega
   obtain rfl:r=12:=by have:=HN.out.2;omega
   obtain ⟨X,hX⟩:∃ X,X=rowsT b4 l0 3:=⟨_,rfl⟩
   rw [← hX] at HO;replace hX:=am hX;have hx0:wr.cell? ⟨go,12,none⟩=some (.int .i64 (rd X 12)):=(Kd.R_celln 0 HO.out 12 (by decide) (by decide)).1;have hx1:wr.cell? ⟨go,13,none⟩=some (.int .i64 (rd X 13)):=(Kd.R_celln 0 HO.out 13 (by decide) (by decide)).1;have hx2:wr.cell? ⟨go,14,none⟩=some (.int .i64 (rd X 14)):=(Kd.R_celln 0 HO.out 14 (by decide) (by decide)).1;have hx3:wr.cell? ⟨go,15,none⟩=some (.int .i64 (rd X 15)):=(Kd.R_celln 0 HO.out 15 (by decide) (by decide)).1;generalize hq0:rd X 12=q0 at hx0;generalize hq1:rd X 13=q1 at hx1;generalize hq2:rd X 14=q2 at hx2;generalize hq3:rd X 15=q3 at hx3;replace hq0:=am hq0;replace hq1:=am hq1;replace hq2:=am hq2;replace hq3:=am hq3;have hd0:wr.drew.cell? ⟨go,12,none⟩=some (.int .i64 q0):=hx0;have hd1:wr.drew.cell? ⟨go,13,none⟩=some (.int .i64 q1):=hx1;have hd2:wr.drew.cell? ⟨go,14,none⟩=some (.int .i64 q2):=hx2;have hd3:wr.drew.cell? ⟨go,15,none⟩=some (.int .i64 q3):=hx3;have e1:IntKind.i64.wrap (12 + 1)=13:=rfl;have g1:IntKind.i64.wrap 13=13:=rfl;have e2:IntKind.i64.wrap (12 + 2)=14:=rfl;have g2:IntKind.i64.wrap 14=14:=rfl;have e3:IntKind.i64.wrap (12 + 3)=15:=rfl;have g3:IntKind.i64.wrap 15=15:=rfl;have hlt:=World.block_lt_of_cell? wr _ hx0;have hne:¬ (wr.heap.size=go):=by simp at hlt;omega
   go_wp2;refine share4 (G:=?G8) (fun tail_=>?main8) ?tail8;case main8 =>
    go_region_held3 (fun W=>W.cell? ⟨go,12,none⟩=some (.int .i64 q0)∧W.cell? ⟨go,13,none⟩=some (.int .i64 q1)∧W.cell? ⟨go,14,none⟩=some (.int .i64 q2)∧W.cell? ⟨go,15,none⟩=some (.int .i64 q3)) ((with_reducible ((repeat' apply And.intro) <;> (exact qd)))) (first|(go_at_call 88;refine (b4.calls _ _ _ _ _).mono ?_;rintro e w2 ⟨rfl,hb2⟩;(first|(have hz:w2.heap[wr.heap.size]?=some (.cells #[.int .i64 0,.int .i64 0,.int .i64 0,.int .i64 0] 98):=(hb2.block wr.heap.size (by simp)).trans (heap_alloc_new wr.drew _);obtain ⟨hc0,hc1,hc2,hc3,hf0,hf1,hf2,hf3⟩:=cl4 ⟨hz⟩;clear hz;replace hb2:Below wr.heap.size wr w2:=below_step (below_drew (below_alloc (Below.refl wr.heap.size wr) _)) hb2)|(replace hb2:Below wr.heap.size wr w2:=below_step (below_drew (Below.refl wr.heap.size wr)) hb2))))
    ·have hB4:=below_alloc hb2 (.cells #[.int .i64 (b4 q0 q1 q2 q3).1,.int .i64 (b4 q0 q1 q2 q3).2.1,.int .i64 (b4 q0 q1 q2 q3).2.2.1,.int .i64 (b4 q0 q1 q2 q3).2.2.2] 98);have hn4:Aside0 (w2.heap.size≠go):=⟨by have:=hb2.size;have h2_:=World.block_lt_of_cell? wr _ hx0;simp at this h2_;omega⟩
     have HOW:=am (Kd.R_below HO.out hB4);have HBW:=am (below_step HB.out hB4);obtain ⟨k0,k1,k2,k3⟩:=new4 w2 (.int .i64 (b4 q0 q1 q2 q3).1) (.int .i64 (b4 q0 q1 q2 q3).2.1) (.int .i64 (b4 q0 q1 q2 q3).2.2.1) (.int .i64 (b4 q0 q1 q2 q3).2.2.2);revert HOW HBW hn4 k0 k1 k2 k3;generalize w2.alloc _=W4;generalize w2.heap.size=bk4;intro hn4 HOW HBW k0 k1 k2 k3;revert hn4 HOW HBW k0 k1 k2 k3;revert bk4;revert W4;exact tail_
    ·have hB4:Below wr.heap.size wr ((((w2.setCell ⟨wr.heap.size,0,none⟩ (.int .i64 (b4 q0 q1 q2 q3).1)).setCell ⟨wr.heap.size,1,none⟩ (.int .i64 (b4 q0 q1 q2 q3).2.1)).setCell ⟨wr.heap.size,2,none⟩ (.int .i64 (b4 q0 q1 q2 q3).2.2.1)).setCell ⟨wr.heap.size,3,none⟩ (.int .i64 (b4 q0 q1 q2 q3).2.2.2)):=below_set (below_set (below_set (below_set hb2 (Nat.le_refl _)) (Nat.le_refl _)) (Nat.le_refl _)) (Nat.le_refl _);have hn4:Aside0 (wr.heap.size≠go):=⟨hne⟩
     have HOW:=am (Kd.R_below HO.out hB4);have HBW:=am (below_step HB.out hB4);obtain ⟨k0,k1,k2,k3⟩:=set4 w2 wr.heap.size _ _ _ _ (.int .i64 (b4 q0 q1 q2 q3).1) (.int .i64 (b4 q0 q1 q2 q3).2.1) (.int .i64 (b4 q0 q1 q2 q3).2.2.1) (.int .i64 (b4 q0 q1 q2 q3).2.2.2) hc0 hc1 hc2 hc3;exact tail_ _ _ hn4 HOW HBW k0 k1 k2 k3
   case tail8 =>
    intro W4 bk4 hn4 HOW HBW k0 k1 k2 k3;clear hx0 hx1 hx2 hx3 hd0 hd1 hd2 hd3 hne hlt HO HB;have hfin:(((X.set 12 (b4 q0 q1 q2 q3).1).set 13 (b4 q0 q1 q2 q3).2.1).set 14 (b4 q0 q1 q2 q3).2.2.1).set 15 (b4 q0 q1 q2 q3).2.2.2=rowsT b4 l0 4:=by rw [← hq0.out,← hq1.out,← hq2.out,← hq3.out,hX.out];rfl
    have HO4:Kd.R (Kd.int .i64) 3 W4.drew w.heap.size (fun _=>True) (.slice (some ⟨go,0,none⟩) 16 co) X:=Kd.R_drew HOW.out;have HB4:Below w.heap.size w W4.drew:=below_drew HBW.out;have HO5:=am (put4 (w0:=w) HO4 12 (b4 q0 q1 q2 q3).1 (b4 q0 q1 q2 q3).2.1 (b4 q0 q1 q2 q3).2.2.1 (b4 q0 q1 q2 q3).2.2.2);have HB5:=am (below_put4 HB4 gb 12 (.int .i64 (b4 q0 q1 q2 q3).1) (.int .i64 (b4 q0 q1 q2 q3).2.1) (.int .i64 (b4 q0 q1 q2 q3).2.2.1) (.int .i64 (b4 q0 q1 q2 q3).2.2.2));rw [hfin] at HO5;clear hfin;have hcp:=copy4 HO4 12 (by decide) _ _ _ _ k0 k1 k2 k3;clear HO4 HB4;have hco:16≤co:=(Kd.R_reads' HOW.out).2.1;have hco1:(16:Int)≤(co:Int):=by omega
    have hco2:16≤co:=by omega
    have e4:IntKind.i64.wrap (12 + 4)=16:=rfl;have g4:IntKind.i64.wrap 16=16:=rfl;clear hco;go_wp2;go_region_held3 (fun W=>True) (trivial) (fail)
    go_wp2;go_roundg 0;case measure=>decide
    case rel=>exact ⟨4,16,rfl,⟨by decide,by decide⟩,HO5,HB5⟩
theorem impl_FourBack.calls (k:Nat) (A0:Option Addr) (c0:Nat) (l0:List Int) (r:List Int) (w:World) (hr0:Kd.C (Kd.int .i64) w A0 l0.length l0) (hc0:l0.length≤c0) (h:impl_FourBack.f k l0=some r) :
  Calls Tryz.prog 62 #[.slice A0 l0.length c0] w fun e w'=>∃ v0_:Value,e=.returned (v0_)∧Kd.R (Kd.int .i64) 3 w' w.heap.size (fun _=>True) v0_ r∧Below w.heap.size w w':=by
 have HR0:=am hr0;have HC0:=am hc0;clear hr0 hc0;have HB:=am (Below.refl w.heap.size w);unfold impl_FourBack.f at h;obtain ⟨t121,A20,H⟩:=Option.bind_eq_some_iff.mp h;have A2:=am A20;clear A20 h;cases t121 with
 | true =>
  rw [if_pos rfl] at H;by_cases h16:l0.length=16
  ·rw [if_pos h16] at H;obtain ⟨t178,A50,H⟩:=Option.bind_eq_some_iff.mp H;have A5:=am A50;clear A50;obtain rfl:=sj H;clear H;have H16:=am h16;clear h16;go_enter Tryz.func62,Tryz.ntmps62;go_wp2_with (first|((with_reducible refine gc 64 ?_);refine gD (some 4) Tryz.func64 _ (impl_areIn.calls k _ _ _ _ _ _ _ _ (ca (HR0.out)) HC0.out A2.out) ?_;intro nd)|((with_reducible refine gc 87 ?_);refine gX (some 8) Tryz.func87 _ (turned72.calls _ _ _ _ (ca (HR0.out)) HC0.out H16.out) ?_;rintro v126 w8 ⟨ho0,hb⟩;have n0_:=am (Kd.R_lower ho0 (below_size (bo HB)));have n1_:=bs HB hb;clear HB;have HO127:=n0_;have HB:=n1_;clear n0_ n1_ hb ho0;obtain ⟨Ao7,co7,eo7⟩:=Kd.R_slice HO127.out;subst eo7)|((with_reducible refine gc 84 ?_);refine gL (some 9) Tryz.func84 #[.slice Ao7 (turnedL b4 l0).length co7] ?_;(with_reducible refine (impl_settled.calls k (fun k_=>some k_=(.slice Ao7 (turnedL b4 l0).length co7:Value).ownBlock) (.slice Ao7 (turnedL b4 l0).length co7) (turnedL b4 l0) t178 w _ ?side1 ?side2 A5.out).mono ?_);(case side1=>repeat (first|(with_reducible first | exact HB.out | apply below_alloc | apply pw_below_drewN | apply below_drew1) | exact HB.out));(case side2=>exact Kd.R_tight rfl HO127.out);rintro e w8 ⟨v179,rfl,ho0,hb,hkp⟩;refine ⟨_,rfl,?_⟩;have HO180:=am (Kd.R_mono (ok':=fun k_=>True) ho0 (fun k_ hk_=>trivial));replace HB:=am (hb);clear HO127;(try clear hb);(try clear hkp);(try clear ho0)));go_ret;exact ⟨_,rfl,ro HO180.out,bo HB⟩
  ·rw [if_neg h16] at H;cases H
 | false =>
  obtain rfl:([]:List Int)=r:=Option.some.inj H;clear H;go_enter Tryz.func62,Tryz.ntmps62;go_wp2_with (first|((with_reducible refine gc 64 ?_);refine gD (some 4) Tryz.func64 _ (impl_areIn.calls k _ _ _ _ _ _ _ _ (ca (HR0.out)) HC0.out A2.out) ?_;intro nd)|((with_reducible refine gd 6 ?_);refine Kd.R_lit (Kd.int .i64) _ 3 ?hg (N:=6) ?hd (xs:=([]:List Int)) (inner:=[]) (ok:=fun _=>True) (okp:=fun _=>True) ?hr ?hp (fun _ hk=>hk) trivial (Below.refl _ _) (Nat.le_refl _) (by simp) ?_;(case hd=>rfl);(case hg=>rfl);(case hr=>first|(go_simp;done)|(go_simp;rfl));(case hp=>exact (Reps.none _ _));intro v123 w15 ho16 hb hg_ hnew_;clear hg_ hnew_;have HO124:=am (Kd.R_lower ho16 (below_size (bo HB)));replace HB:=bs HB hb;clear hb ho16));go_ret;exact ⟨_,rfl,ro HO124.out,bo HB⟩
mutual
def impl_quarter.l0:Nat→Int→List Int→Int→Option (List Int)
 | 0,_,_,_=>none
 | k + 1,x0,x3,x7=>if x7 < 4 then (impl_quarter.l1 k x0 x3 x7 x7 0) else (some x3)
def impl_quarter.l1:Nat→Int→List Int→Int→Int→Int→Option (List Int)
 | 0,_,_,_,_,_=>none
 | k + 1,x0,x3,x4,x7,x10=>if x10 < 4 then (if x3.length < 17592186044416 then (impl_quarter.l1 k x0 (x3 ++ [wrap64 ((wrap64 ((wrap64 ((wrap64 (x4 + (wrap64 ((wrap64 (Int.tdiv x0 2)) * 4)))) * 8)) + x10)) + (wrap64 ((Int.tmod x0 2) * 4)))]) x4 x7 (wrap64 (x10 + 1))) else (none)) else (impl_quarter.l0 k x0 x3 (wrap64 (x7 + 1)))
end
def impl_quarter.f (k:Nat) (a0:Int):Option (List Int):=impl_quarter.l0 k a0 (([]:List Int)) 0
theorem impl_quarter.mono_l:∀ k,(∀ y0 y1 y2,LeO (impl_quarter.l0 k y0 y1 y2) (impl_quarter.l0 (k + 1) y0 y1 y2))∧(∀ y0 y1 y2 y3 y4,LeO (impl_quarter.l1 k y0 y1 y2 y3 y4) (impl_quarter.l1 (k + 1) y0 y1 y2 y3 y4))
 | 0=>⟨fun _ _ _ r h=>by simp [impl_quarter.l0] at h,fun _ _ _ _ _ r h=>by simp [impl_quarter.l1] at h⟩
 | k + 1=>by
  obtain ⟨ih0,ih1⟩:=impl_quarter.mono_l k;refine ⟨?_,?_⟩
  ·intro y0 y1 y2;unfold impl_quarter.l0
   repeat' first
   | (with_reducible exact ih0 _ _ _)
   | (with_reducible exact ih1 _ _ _ _ _)
   | (with_reducible exact LeO.refl _)
   | (with_reducible exact LeO.none _)
   | (with_reducible refine LeO.ite ?_ ?_)
   | (with_reducible refine LeO.bind ?_ (fun _=>?_))
   | exact ih0 _ _ _
   | exact ih1 _ _ _ _ _
   | exact LeO.none _
   | refine LeO.ite ?_ ?_
   | refine LeO.bind ?_ (fun _=>?_)
  ·intro y0 y1 y2 y3 y4;unfold impl_quarter.l1
   repeat' first
   | (with_reducible exact ih0 _ _ _)
   | (with_reducible exact ih1 _ _ _ _ _)
   | (with_reducible exact LeO.refl _)
   | (with_reducible exact LeO.none _)
   | (with_reducible refine LeO.ite ?_ ?_)
   | (with_reducible refine LeO.bind ?_ (fun _=>?_))
   | exact ih0 _ _ _
   | exact ih1 _ _ _ _ _
   | exact LeO.none _
   | refine LeO.ite ?_ ?_
   | refine LeO.bind ?_ (fun _=>?_)
theorem impl_quarter.mono:∀ a0 k,LeO (impl_quarter.f k a0) (impl_quarter.f (k + 1) a0):=by
 intro a0 k;obtain ⟨ih0,ih1⟩:=impl_quarter.mono_l k;unfold impl_quarter.f
 repeat' first
   | (with_reducible exact ih0 _ _ _)
   | (with_reducible exact ih1 _ _ _ _ _)
   | (with_reducible exact LeO.refl _)
   | (with_reducible exact LeO.none _)
   | (with_reducible refine LeO.ite ?_ ?_)
   | (with_reducible refine LeO.bind ?_ (fun _=>?_))
   | exact ih0 _ _ _
   | exact ih1 _ _ _ _ _
   | exact LeO.none _
   | refine LeO.ite ?_ ?_
   | refine LeO.bind ?_ (fun _=>?_)
theorem impl_quarter.calls (k:Nat) (a0:Int) (r:List Int) (w:World) (h:impl_quarter.f k a0=some r) :
  Calls Tryz.prog 63 #[.int .i64 a0] w fun e w'=>∃ v0_:Value,e=.returned (v0_)∧Kd.R (Kd.int .i64) 3 w' w.heap.size (fun _=>True) v0_ r∧Below w.heap.size w w':=by
 have HB:=am (Below.refl w.heap.size w);have H:=h;clear h;unfold impl_quarter.f at H;obtain ⟨y450,hy450⟩:∃ y_:List Int,y_=(([]:List Int)):=⟨_,rfl⟩
 replace H:(impl_quarter.l0 k a0 y450 0)=some r:=by subst hy450;exact H
 have Ny450:=am hy450;clear hy450;have H':=am H;clear H;go_enter Tryz.func63,Tryz.ntmps63;go_wp2_with (first|((with_reducible refine gd 6 ?_);refine Kd.R_lit (Kd.int .i64) _ 3 ?hg (N:=6) ?hd (xs:=([]:List Int)) (inner:=[]) (ok:=fun _=>True) (okp:=fun _=>True) ?hr ?hp (fun _ hk=>hk) trivial (Below.refl _ _) (Nat.le_refl _) (by simp) ?_;(case hd=>rfl);(case hg=>rfl);(case hr=>first|(go_simp;done)|(go_simp;rfl));(case hp=>exact (Reps.none _ _));intro v451 w2 ho3 hb hg_ hnew_;clear hg_ hnew_;(first | rw [← Ny450.out] at ho3|(simp only [Int.reduceToNat] at ho3;rw [← Ny450.out] at ho3));have HO452:=am (Kd.R_lower ho3 (below_size (bo HB)));replace HB:=bs HB hb;clear hb ho3));go_loopg [3,7] k (fun kq v3 v7 w'=>∃ (x3_1:List Int) (x7_1:Int),v7=.int .i64 x7_1∧Aside0 (impl_quarter.l0 kq a0 x3_1 x7_1=some r)∧Aside0 (kq≤k)∧Aside0 (Kd.R (Kd.int .i64) 3 w' w.heap.size (fun _=>True) v3 x3_1)∧Aside0 (Below w.heap.size w w'))
 case atStart=>exact ⟨(y450),(0),rv,H',⟨Nat.le_refl _⟩,(ra HO452.out),bh HB⟩
 case round =>
  clear H';obtain ⟨x3_1,x7_1,rfl,HA,HK1,HO_3,HB⟩:=hrel;cases gk with
  | zero=>exact absurd HA.out (by simp [impl_quarter.l0])
  | succ k1 =>
   have H:=HA.out;clear HA;simp only [impl_quarter.l0] at H;replace H:=ifd H;rcases H with ⟨c4b0,H⟩ | ⟨c4b0,H⟩;rotate_left
   ·obtain rfl:=sj H;go_wp2;go_ret;exact ⟨_,re,ro HO_3.out,bo HB⟩
   have H':=am H;clear H;go_wp2;go_loopg [3,10] k1 (fun kq v3 v10 w'=>∃ (x3_2:List Int) (x10_2:Int),v10=.int .i64 x10_2∧Aside0 (impl_quarter.l1 kq a0 x3_2 x7_1 x7_1 x10_2=some r)∧Aside0 (kq≤k1)∧Aside0 (Kd.R (Kd.int .i64) 3 w' w.heap.size (fun _=>True) v3 x3_2)∧Aside0 (Below w.heap.size w w'))
   case atStart=>exact ⟨(x3_1),(0),rv,H',⟨Nat.le_refl _⟩,(ra HO_3.out),bh HB⟩
   case round =>
    clear H';obtain ⟨x3_2,x10_2,rfl,HA,HK2,HO_3,HB⟩:=hrel;cases gk with
    | zero=>exact absurd HA.out (by simp [impl_quarter.l1])
    | succ k2 =>
     have H:=HA.out;clear HA;simp only [impl_quarter.l1] at H;replace H:=ifd H;rcases H with ⟨c5b0,H⟩ | ⟨c5b0,H⟩;rotate_left
     ·have H':=am H;clear H;go_wp2;go_roundg k2;case measure=>have:=HK1.out;have:=HK2.out;omega
      case rel=>exact ⟨(x3_2),(wrap64 (x7_1 + 1)),rv,H',⟨by have:=HK1.out;have:=HK2.out;omega⟩,(ra HO_3.out),bh HB⟩
     by_cases c6:x3_2.length < 17592186044416
     ·rw [if_pos c6] at H;have LMc6:=am c6;clear c6;obtain ⟨y453,hy453⟩:∃ y_:List Int,y_=(x3_2 ++ [wrap64 ((wrap64 ((wrap64 ((wrap64 (x7_1 + (wrap64 ((wrap64 (Int.tdiv a0 2)) * 4)))) * 8)) + x10_2)) + (wrap64 ((Int.tmod a0 2) * 4)))]):=⟨_,rfl⟩
      replace H:(impl_quarter.l1 k2 a0 y453 x7_1 x7_1 (wrap64 (x10_2 + 1)))=some r:=by subst hy453;exact H
      have Ny453:=am hy453;clear hy453;have H':=am H;clear H;go_wp2_with (first|((with_reducible refine gate_builtin (b:=.append) (xs:=#[.tmp 13,.tmp 26]) rfl ?_);at_builtin;refine Kd.R_append (Kd.int .i64) (w0:=w) w.heap.size rfl (.tmp 13) (.tmp 26) 33 3 (.int .i64 0) 8 rfl Tryz.underlying33 info3 rfl (by decide) (by omega) u3 x3_2 (wrap64 ((wrap64 ((wrap64 ((wrap64 (x7_1 + (wrap64 ((wrap64 (Int.tdiv a0 2)) * 4)))) * 8)) + x10_2)) + (wrap64 ((Int.tmod a0 2) * 4)))) [.int .i64 (wrap64 ((wrap64 ((wrap64 ((wrap64 (x7_1 + (wrap64 ((wrap64 (Int.tdiv a0 2)) * 4)))) * 8)) + x10_2)) + (wrap64 ((Int.tmod a0 2) * 4))))] (fun _=>True) (fun _=>False) rfl rfl ?aP (fun _ hk=>hk.elim) ?aF ?aO ?aB ?aS ?aL ?_;(case aP=>exact rfl);(case aB=>exact (bo HB));(case aF=>exact (fun _ _=>trivial));(case aO=>exact (ro HO_3.out));(case aS=>exact (below_size (bo HB)));(case aL=>have:=LMc6.out;omega);intro v454 w7 ho hb hg hat;rw [← Ny453.out] at ho;have HO455:=am (ho);replace HB:=am (hb);clear HO_3;clear ho hb hg hat));go_roundg k2;case measure=>have:=HK1.out;have:=HK2.out;omega
      case rel=>exact ⟨(y453),(wrap64 (x10_2 + 1)),rv,H',⟨by have:=HK1.out;have:=HK2.out;omega⟩,(ra HO455.out),bh HB⟩
     ·rw [if_neg c6] at H;cases H
mutual
def impl_LevelsBack.j0:Nat→List Int→Bool→Bool→Int→Bool→Bool→Option (List Int × Bool)
 | 0,_,_,_,_,_,_=>none
 | k + 1,x0,x26,x457a,x457b,x457c,x457d=>if x26=true then (some ((([]:List Int)),false)) else (if x457d=true then ((impl_Unscanned.f k 8 x0).bind fun bt462=>(some (bt462.1,bt462.2))) else (if x457c=true then ((impl_Unscanned.f k 8 x0).bind fun bt466=>(impl_LevelsBack.l0 k bt466.1 (bt466.1.length:Int) 0 x457a x457b x457c x457d)) else (if 64≤35184372088832 then (impl_LevelsBack.l1 k x0 (List.replicate 64 0) 0 x457a x457b x457c x457d) else (none))))
def impl_LevelsBack.l0:Nat→List Int→Int→Int→Bool→Int→Bool→Bool→Option (List Int × Bool)
 | 0,_,_,_,_,_,_,_=>none
 | k + 1,x6,x42,x43,x457a,x457b,x457c,x457d=>if x43 < x42 then (if 0≤x43 then (if x43 < (x6.length:Int) then ((impl_LargeBack.f (rd x6 x43) x457b).bind fun t471=>(impl_LevelsBack.l0 k (x6.set (x43:Int).toNat t471) x42 (wrap64 (x43 + 1)) x457a x457b x457c x457d)) else (none)) else (none)) else ((impl_EightBack.f k x6).bind fun t473=>(some (t473,true)))
def impl_LevelsBack.l1:Nat→List Int→List Int→Int→Bool→Int→Bool→Bool→Option (List Int × Bool)
 | 0,_,_,_,_,_,_,_=>none
 | k + 1,x0,x10,x59,x457a,x457b,x457c,x457d=>if x59 < 4 then (if 0≤(wrap64 (16 * x59)) then (if (wrap64 (16 * x59))≤(wrap64 ((wrap64 (16 * x59)) + 16)) then (if (wrap64 ((wrap64 (16 * x59)) + 16))≤(x0.length:Int) then ((impl_Unscanned.f k 4 ((x0.take ((wrap64 ((wrap64 (16 * x59)) + 16)):Int).toNat).drop ((wrap64 (16 * x59)):Int).toNat)).bind fun bt480=>(impl_LevelsBack.l2 k x0 x10 x59 bt480.1 x59 (bt480.1.length:Int) 0 x457a x457b x457c x457d)) else (none)) else (none)) else (none)) else (some (x10,true))
def impl_LevelsBack.l2:Nat→List Int→List Int→Int→List Int→Int→Int→Int→Bool→Int→Bool→Bool→Option (List Int × Bool)
 | 0,_,_,_,_,_,_,_,_,_,_,_=>none
 | k + 1,x0,x10,x11,x12,x59,x74,x75,x457a,x457b,x457c,x457d=>if x75 < x74 then (if 0≤x75 then (if x75 < (x12.length:Int) then ((impl_SmallBack.f k (rd x12 x75) x457b x75).bind fun t485=>(impl_LevelsBack.l2 k x0 x10 x11 (x12.set (x75:Int).toNat t485) x59 x74 (wrap64 (x75 + 1)) x457a x457b x457c x457d)) else (none)) else (none)) else ((impl_FourBack.f k x12).bind fun t487=>((impl_quarter.f k x11).bind fun t490=>(impl_LevelsBack.l3 k x0 x10 t487 x59 t490 (t490.length:Int) 0 x457a x457b x457c x457d)))
def impl_LevelsBack.l3:Nat→List Int→List Int→List Int→Int→List Int→Int→Int→Bool→Int→Bool→Bool→Option (List Int × Bool)
 | 0,_,_,_,_,_,_,_,_,_,_,_=>none
 | k + 1,x0,x10,x16,x59,x92,x93,x94,x457a,x457b,x457c,x457d=>if x94 < x93 then (if 0≤x94 then (if x94 < (x92.length:Int) then (if x94 < (x16.length:Int) then (if 0≤(rd x92 x94) then (if (rd x92 x94) < (x10.length:Int) then (impl_LevelsBack.l3 k x0 (x10.set ((rd x92 x94):Int).toNat (rd x16 x94)) x16 x59 x92 x93 (wrap64 (x94 + 1)) x457a x457b x457c x457d) else (none)) else (none)) else (none)) else (none)) else (none)) else (impl_LevelsBack.l1 k x0 x10 (wrap64 (x59 + 1)) x457a x457b x457c x457d)
end
def impl_LevelsBack.f (k:Nat) (l0:List Int) (a1_0:Bool) (a1_1:Int) (a1_2:Bool) (a1_3:Bool):Option (List Int × Bool):=(impl_areLevels.f k l0).bind fun t457=>(if t457=true then ((impl_CondOk.f a1_0 a1_1 a1_2 a1_3).bind fun t458=>(impl_LevelsBack.j0 k l0 (!t458) a1_0 a1_1 a1_2 a1_3)) else (impl_LevelsBack.j0 k l0 true a1_0 a1_1 a1_2 a1_3))
theorem impl_LevelsBack.calls (k:Nat) (A0:Option Addr) (c0:Nat) (l0:List Int) (a1_0:Bool) (a1_1:Int) (a1_2:Bool) (a1_3:Bool) (r1:List Int) (r2:Bool) (w:World) (hr0:Kd.C (Kd.int .i64) w A0 l0.length l0) (hc0:l0.length≤c0) (h:impl_LevelsBack.f k l0 a1_0 a1_1 a1_2 a1_3=some (r1,r2)) :
  Calls Tryz.prog 38 #[.slice A0 l0.length c0,.agg #[.bool a1_0,.int .i64 a1_1,.bool a1_2,.bool a1_3]] w fun e w'=>∃ v0_:Value,e=.returned (.tuple #[v0_,.bool r2])∧Kd.R (Kd.int .i64) 3 w' w.heap.size (fun _=>True) v0_ r1∧Below w.heap.size w w':=by
 have hu29:=Tryz.underlying29;have HR0:=am hr0;have HC0:=am hc0;clear hr0 hc0;have HB:=am (Below.refl w.heap.size w);have H:=h;clear h;unfold impl_LevelsBack.f at H;have HC3:=am H;clear H;go_enter Tryz.func38,Tryz.ntmps38;go_upto_region 1 with (first|((with_reducible refine gd 3 ?_);refine bx 3 #[.bool a1_0,.int .i64 a1_1,.bool a1_2,.bool a1_3] 29 ?_;intro gb456 hg w4 BK456 hb;have GE456:=ge HB hg;replace HB:=bs HB hb;clear hb hg))
 (try simp only [Act.put,List.setIfInBounds_toArray,List.set_cons_zero,List.set_cons_succ])
 go_cut [26] (fun v26 wc=>∃ (kq:Nat) (x26_2:Bool),v26=.bool x26_2∧Aside0 (impl_LevelsBack.j0 kq l0 x26_2 a1_0 a1_1 a1_2 a1_3=some (r1,r2))∧Aside0 (kq≤k)∧Aside0 (wc.heap[gb456]?=some (.cells #[.bool a1_0,.int .i64 a1_1,.bool a1_2,.bool a1_3] 29 (0,0)))∧Aside0 (Below w.heap.size w wc))
 case first =>
  have H:=HC3.out;clear HC3;replace H:=bnd H;obtain ⟨t457,A5,H⟩:=H;replace H:=ifb H;rcases H with ⟨rfl,H⟩ | ⟨rfl,H⟩
  ·replace H:=bnd H;obtain ⟨t458,A7,H⟩:=H;have H':=am H;clear H;go_wp2_with (first|((with_reducible refine gc 56 ?_);refine gD (some 20) Tryz.func56 _ (impl_areLevels.calls k _ _ _ _ _ (ca (Kd.C_below HR0.out HB.out)) HC0.out A5.out) ?_;intro nd;obtain ⟨z8a,z8b,z8c,z8d,z8p,z8q,z8r,z8s⟩:=cl4 BK456)|(go_at_call 15;refine cB (impl_CondOk.calls _ _ _ _ _ _ A7.out) ?_;intro w9 hb;replace BK456:=bb BK456 hb;replace HB:=bs HB hb));go_meet;case rel=>exact ⟨_,(!t458),rv,H',om,bk BK456,bh HB⟩
  ·have H':=am H;clear H;go_wp2_with (first|((with_reducible refine gc 56 ?_);refine gD (some 20) Tryz.func56 _ (impl_areLevels.calls k _ _ _ _ _ (ca (Kd.C_below HR0.out HB.out)) HC0.out A5.out) ?_;intro nd));go_meet;case rel=>exact ⟨_,(true),rv,H',om,bk BK456,bh HB⟩
 case rest =>
  clear HC3;try clear z8a z8b z8c z8d z8p z8q z8r z8s
  obtain ⟨kq,x26_2,rfl,HA,HJ2,BK456,HB⟩:=hcut;cases kq with
  | zero=>exact absurd HA.out (by simp [impl_LevelsBack.j0])
  | succ kj2 =>
   have H:=HA.out;clear HA;simp only [impl_LevelsBack.j0] at H;replace H:=ifb H;rcases H with ⟨rfl,H⟩ | ⟨rfl,H⟩
   ·obtain ⟨y459,hy459⟩:∃ y_:List Int,y_=(([]:List Int)):=⟨_,rfl⟩
    replace H:(some (y459,false))=some (r1,r2):=by subst hy459;exact H
    have Ny459:=am hy459;clear hy459;obtain ⟨rfl,rfl⟩:=sj2 H;go_wp2_with (first|((with_reducible refine gd 27 ?_);refine Kd.R_lit (Kd.int .i64) _ 3 ?hg (N:=27) ?hd (xs:=([]:List Int)) (inner:=[]) (ok:=fun _=>True) (okp:=fun _=>True) ?hr ?hp (fun _ hk=>hk) trivial (Below.refl _ _) (Nat.le_refl _) (by simp) ?_;(case hd=>rfl);(case hg=>rfl);(case hr=>first|(go_simp;done)|(go_simp;rfl));(case hp=>exact (Reps.none _ _));intro v460 w11 ho12 hb hg_ hnew_;clear hg_ hnew_;(first | rw [← Ny459.out] at ho12|(simp only [Int.reduceToNat] at ho12;rw [← Ny459.out] at ho12));have HO461:=am (Kd.R_lower ho12 (below_size (bo HB)));replace BK456:=bb BK456 hb;replace HB:=bs HB hb;clear hb ho12));go_ret2
    exact ⟨_,re,ro HO461.out,bo HB⟩
   ·replace H:=ifb H;rcases H with ⟨rfl,H⟩ | ⟨rfl,H⟩
    ·replace H:=bnd H;obtain ⟨⟨t462,t463⟩,A14,H⟩:=H;dsimp only at H;obtain ⟨rfl,rfl⟩:=sj2 H;obtain ⟨z15a,z15b,z15c,z15d,z15p,z15q,z15r,z15s⟩:=cl4 BK456;go_wp2_with (first|((with_reducible refine gc 58 ?_);refine gX (some 31) Tryz.func58 _ (impl_Unscanned.calls _ _ _ _ _ _ _ _ (ca (Kd.C_below HR0.out HB.out)) HC0.out A14.out) ?_;rintro v464 w16 ⟨ho0,hb⟩;have HO465:=am (Kd.R_lower ho0 (below_size (bo HB)));replace BK456:=bb BK456 hb;replace HB:=bs HB hb;(try clear hb);(try clear ho0)));go_ret2
     exact ⟨_,re,ro HO465.out,bo HB⟩
    ·replace H:=ifb H;rcases H with ⟨rfl,H⟩ | ⟨rfl,H⟩
     ·replace H:=bnd H;obtain ⟨⟨t466,t467⟩,A18,H⟩:=H;dsimp only at H;have H':=am H;clear H;obtain ⟨z19a,z19b,z19c,z19d,z19p,z19q,z19r,z19s⟩:=cl4 BK456;go_wp2_with (first|((with_reducible refine gc 58 ?_);refine gX (some 38) Tryz.func58 _ (impl_Unscanned.calls _ _ _ _ _ _ _ _ (ca (Kd.C_below HR0.out HB.out)) HC0.out A18.out) ?_;rintro v468 w20 ⟨ho0,hb⟩;have HO469:=am (Kd.R_lower ho0 (below_size (bo HB)));replace BK456:=bb BK456 hb;replace HB:=bs HB hb;(try clear hb);(try clear ho0);obtain ⟨Ao21,co21,eo21⟩:=Kd.R_slice HO469.out;subst eo21));go_loopg [43] kj2 (fun kq v43 w'=>∃ (x6_2:List Int) (x43_2:Int),v43=.int .i64 x43_2∧Aside0 (impl_LevelsBack.l0 kq x6_2 (t466.length:Int) x43_2 a1_0 a1_1 true false=some (r1,r2))∧Aside0 (kq≤kj2)∧Aside0 (Kd.R (Kd.int .i64) 3 w' w.heap.size (fun _=>True) (.slice Ao21 t466.length co21) x6_2)∧Aside0 (w'.heap[gb456]?=some (.cells #[.bool a1_0,.int .i64 a1_1,.bool true,.bool false] 29 (0,0)))∧Aside0 (Below w.heap.size w w'))
      case atStart=>exact ⟨(t466),(0),rv,H',⟨Nat.le_refl _⟩,(ra HO469.out),bk BK456,bh HB⟩
      case round =>
       clear H';try clear z15a z15b z15c z15d z15p z15q z15r z15s
       try clear z19a z19b z19c z19d z19p z19q z19r z19s
       try clear z8a z8b z8c z8d z8p z8q z8r z8s
       obtain ⟨x6_2,x43_2,rfl,HA,HK2,HO_6,BK456,HB⟩:=hrel;have hl6_2:=(Kd.R_reads' HO_6.out).1;rw [hl6_2] at HO_6;(try simp only [hl6_2])
       (try simp only [hl6_2] at BK456)
       cases gk with
       | zero=>exact absurd HA.out (by simp [impl_LevelsBack.l0])
       | succ k2 =>
        have H:=HA.out;clear HA;simp only [impl_LevelsBack.l0] at H;by_cases c22:x43_2 < (t466.length:Int);rotate_left
        ·rw [if_neg c22] at H;have c22b0:=decide_eq_false c22;(try (have c22b0h:=c22b0;simp only [hl6_2] at c22b0h))
         clear c22;replace H:=bnd H;obtain ⟨t473,A31,H⟩:=H;obtain ⟨rfl,rfl⟩:=sj2 H;go_wp2_with (first|((with_reducible refine gc 60 ?_);refine gX (some 57) Tryz.func60 _ (impl_EightBack.calls _ _ _ _ _ _ (ca ((Kd.R_reads' HO_6.out).2.2)) ((Kd.R_reads' HO_6.out).2.1) A31.out) ?_;rintro v474 w32 ⟨ho0,hb⟩;have HO475:=am (Kd.R_lower (Kd.R_new' ho0 (Kd.R_lt (ro HO_6.out))) (below_size (bo HB)));replace HO_6:=am (Kd.R_elder' (ro HO_6.out) (Kd.R_base ho0) hb);replace BK456:=bb BK456 hb;replace HB:=bs HB hb;(try clear hb);(try clear ho0)));go_ret2
         exact ⟨_,re,ro (Kd.R_mono HO475.out (fun _ hk=>trivial)),bo HB⟩
        rw [if_pos c22] at H;have c22b0:=decide_eq_true c22;(try (have c22b0h:=c22b0;simp only [hl6_2] at c22b0h))
        clear c22;replace H:=ifn H;obtain ⟨c23,H⟩:=H;have c23b0:=decide_eq_true c23;(try (have c23b0h:=c23b0;simp only [hl6_2] at c23b0h))
        clear c23;replace H:=ifn H;obtain ⟨c24,H⟩:=H;have c24b0:=decide_eq_true c24;(try (have c24b0h:=c24b0;simp only [hl6_2] at c24b0h))
        clear c24;replace H:=bnd H;obtain ⟨t471,A25,H⟩:=H;obtain ⟨y472,hy472⟩:∃ y_:List Int,y_=(x6_2.set (x43_2:Int).toNat t471):=⟨_,rfl⟩
        replace H:(impl_LevelsBack.l0 k2 y472 (t466.length:Int) (wrap64 (x43_2 + 1)) a1_0 a1_1 true false)=some (r1,r2):=by subst hy472;exact H
        have Ny472:=am hy472;clear hy472;have H':=am H;clear H;have p470:0≤(x43_2:Int):=od;have q470:x43_2 < (x6_2.length:Int):=od;obtain ⟨ad470,e470,hx470_0⟩:=Kd.at_int (Kd.R_reads' HO_6.out).2.2 x43_2 p470 q470;cases e470;replace p470:=eq_true p470;replace q470:=eq_true q470;obtain ⟨z27a,z27b,z27c,z27d,z27p,z27q,z27r,z27s⟩:=cl4 BK456;go_wp2_with (first|((with_reducible refine gc 59 ?_);refine gB (some 53) Tryz.func59 _ (impl_LargeBack.calls _ _ _ _ A25.out) ?_;intro w28 hb;replace HO_6:=am (Kd.R_below (ro HO_6.out) hb);replace BK456:=bb BK456 hb;replace HB:=bs HB hb;have p26:0≤(x43_2:Int):=od;have q26:(x43_2:Int) < ((x6_2.length:Int):Int):=od;obtain ⟨go26,co26,eo26,gb26,gl26,cl26,HG26⟩:=Kd.R_form HO_6.out (by omega);(first | cases eo26|(injection eo26 with ea_ en_ ec_;(first | subst ea_|(injection ea_ with ea_;subst ea_));subst ec_;clear en_));have GB26:=am gb26;have GG26:=am HG26;clear gb26 gl26 HG26;(first | simp only [add_plain] at hx470_0 | skip);obtain ⟨hx26_0,hf26_0⟩:=Kd.R_celln 0 HO_6.out (x43_2:Int) p26 q26;replace p26:=eq_true p26;replace q26:=eq_true q26;obtain ⟨hy29_,hz29_⟩:=Kd.R_celln 0 HO_6.out (x43_2:Int) (od) (od);have HP29:=Kd.R_putg HO_6.out (x43_2:Int) t471)|((with_reducible refine gate_store (t:=3) (p:=54) rfl ?_);refine store_event (t:=3) (p:=54) (v:=?vo_w30) (w1:=(w28.setCell ⟨go26,(x43_2:Int).toNat,none⟩ (.int .i64 t471))) ?hg ?ho ?hn ?hr ?_;(case ho=>rfl);(case hg=>rfl);(case hn=>rfl);(case hr=>first|(go_simp;done)|(go_simp;rfl));intro w30 hw;have hg:w28.grownBy w30 (some go26):=(by rw [hw];exact HP29.2);have hp_:Kd.R (Kd.int .i64) 3 w30 w.heap.size (fun _=>True) (.slice (some ⟨go26,0,none⟩) x6_2.length co21) y472:=(by rw [hw,Ny472.out];exact HP29.1);clear HP29;replace BK456:=am (blk_grown (bt BK456) hg (Kd.R_ne HO_6.out BK456.out (by decide)));replace HO_6:=am (hp_);replace HB:=am ((by rw [hw];exact below_set (HB.out) GB26.out:Below w.heap.size w w30));clear hg hw hp_));(try simp only [← hl6_2])
        go_roundg k2;case measure=>have:=HJ2.out;have:=HK2.out;omega
        case rel=>exact ⟨(y472),(wrap64 (x43_2 + 1)),rv,H',⟨by have:=HJ2.out;have:=HK2.out;omega⟩,⟨by (try simp only [hl6_2]);(with_reducible repeat (first | apply Kd.R_alloc | apply Kd.R_drewN | apply Kd.R_drew));exact HO_6.out⟩,⟨by (try simp only [hl6_2]);(with_reducible repeat (first | refine blk_drewN ?_ _ | refine blk_drew ?_ | refine blk_alloc ?_ _));exact BK456.out⟩,bh HB⟩
     ·by_cases c33:64≤35184372088832;rotate_left
      ·rw [if_neg c33] at H;cases H
      rw [if_pos c33] at H;have c33b0:=eq_true c33;have c33b1:=decide_eq_true c33;clear c33;obtain ⟨y476,hy476⟩:∃ y_:List Int,y_=(List.replicate 64 0):=⟨_,rfl⟩
      replace H:(impl_LevelsBack.l1 kj2 l0 y476 0 a1_0 a1_1 false false)=some (r1,r2):=by subst hy476;exact H
      have Ny476:=am hy476;clear hy476;have H':=am H;clear H;obtain ⟨z34a,z34b,z34c,z34d,z34p,z34q,z34r,z34s⟩:=cl4 BK456;go_wp2_with (first|((with_reducible refine gd 58 ?_);refine Kd.R_make (Kd.int .i64) _ 3 rfl (N:=58) rfl 33 _ _ rfl 64 rfl rfl Tryz.underlying33 (.int .i64 0) 8 info3 rfl (by decide) (by omega) 0 (ok:=fun _=>True) (okp:=fun _=>True) rfl (fun _ hk=>hk) trivial (by omega) (by omega) (Below.refl _ _) (Nat.le_refl _) ?_;intro v477 w35 ho36 hb hg_ hnew_;clear hg_ hnew_;(first | rw [← Ny476.out] at ho36|(simp only [Int.reduceToNat] at ho36;rw [← Ny476.out] at ho36));have HO478:=am (Kd.R_lower ho36 (below_size (bo HB)));replace BK456:=bb BK456 hb;replace HB:=bs HB hb;clear hb ho36));go_loopg [59] kj2 (fun kq v59 w'=>∃ (x10_2:List Int) (x59_2:Int),v59=.int .i64 x59_2∧Aside0 (impl_LevelsBack.l1 kq l0 x10_2 x59_2 a1_0 a1_1 false false=some (r1,r2))∧Aside0 (kq≤kj2)∧Aside0 (Kd.R (Kd.int .i64) 3 w' w.heap.size (fun _=>True) v477 x10_2)∧Aside0 (w'.heap[gb456]?=some (.cells #[.bool a1_0,.int .i64 a1_1,.bool false,.bool false] 29 (0,0)))∧Aside0 (Below w.heap.size w w'))
      case atStart=>exact ⟨(y476),(0),rv,H',⟨Nat.le_refl _⟩,(ra HO478.out),bk BK456,bh HB⟩
      case round =>
       clear H';try clear q2
       try clear hx2
       try clear hf2
       try clear q4
       try clear hx4
       try clear q26
       try clear hx26
       try clear hf26
       try clear z15a z15b z15c z15d z15p z15q z15r z15s
       try clear z19a z19b z19c z19d z19p z19q z19r z19s
       try clear z27a z27b z27c z27d z27p z27q z27r z27s
       try clear z34a z34b z34c z34d z34p z34q z34r z34s
       try clear z8a z8b z8c z8d z8p z8q z8r z8s
       try clear hx26_0
       try clear hx470_0
       try clear q26
       try clear q470
       obtain ⟨x10_2,x59_2,rfl,HA,HK2,HO_10,BK456,HB⟩:=hrel;cases gk with
       | zero=>exact absurd HA.out (by simp [impl_LevelsBack.l1])
       | succ k2 =>
        have H:=HA.out;clear HA;simp only [impl_LevelsBack.l1] at H;replace H:=ifd H;rcases H with ⟨c37b0,H⟩ | ⟨c37b0,H⟩;rotate_left
        ·obtain ⟨rfl,rfl⟩:=sj2 H;go_wp2;go_ret2
         exact ⟨_,re,ro HO_10.out,bo HB⟩
        obtain ⟨ji38,hji38⟩:∃ j_:Int,(wrap64 (16 * x59_2))=j_:=⟨_,rfl⟩
        replace H:(if 0≤(ji38) then (if (ji38)≤(wrap64 ((ji38) + 16)) then (if (wrap64 ((ji38) + 16))≤(l0.length:Int) then ((impl_Unscanned.f k2 4 ((l0.take ((wrap64 ((ji38) + 16)):Int).toNat).drop ((ji38):Int).toNat)).bind fun bt480=>(impl_LevelsBack.l2 k2 l0 x10_2 x59_2 bt480.1 x59_2 (bt480.1.length:Int) 0 a1_0 a1_1 false false)) else (none)) else (none)) else (none))=some (r1,r2):=by first|(rw [hji38] at H;exact H)|(simp only [hji38] at H ⊢;exact H)
        have hji38w:(IntKind.i64.wrap (16 * x59_2))=ji38:=(i64_w _).trans hji38;replace H:=ifn H;obtain ⟨c39,H⟩:=H;have c39b0:=eq_true c39;have c39b1:=decide_eq_true c39;clear c39;replace H:=ifn H;obtain ⟨c40,H⟩:=H;have c40b0:=eq_true c40;have c40b1:=decide_eq_true c40;replace H:=ifn H;obtain ⟨c41,H⟩:=H;have c41b0:=eq_true c41;have c41b1:=decide_eq_true c41;replace H:=bnd H;obtain ⟨⟨t480,t481⟩,A42,H⟩:=H;dsimp only at H;have H':=am H;clear H;obtain ⟨i043,hi043,_,hsz43,_⟩:=info_parts info3;obtain ⟨A43,hcut43,hA43,hC43⟩:=print_mid_of (P:=Tryz.prog) (Value.int .i64) 0 33 3 .i64 .i64 Tryz.underlying33 hi043 hsz43 A0 c0 l0 (ji38) (wrap64 ((ji38) + 16)) (od) (by first | omega | exact od) (od) HC0.out;have HR479:=am (Kd.C_of_reads (h1:=fun _=>rfl) (hA43 _ (Kd.reads_of_C HR0.out)));have HC479:=am hC43;clear hA43 hC43 hi043 hsz43;go_wp2_with (first|((with_reducible refine gc 58 ?_);refine gX (some 70) Tryz.func58 _ (impl_Unscanned.calls _ _ _ _ _ _ _ _ (ca (Kd.C_below HR479.out HB.out)) HC479.out A42.out) ?_ (hargs:=(by (try simp only [List.map_toArray,List.map_cons,List.map_nil]);first | done|(rw [show ((l0.take ((wrap64 ((ji38) + 16)):Int).toNat).drop ((ji38):Int).toNat).length=((wrap64 ((ji38) + 16)).toNat - (ji38).toNat) from (by rw [List.length_drop,List.length_take];have h_:((wrap64 ((ji38) + 16)):Int)≤(l0.length:Int):=od;omega)] <;> rfl)|(simp only [hji38];rfl) | rfl|(simp only [List.length_drop,List.length_take];rfl)));rintro v482 w44 ⟨ho0,hb⟩;have HO483:=am (Kd.R_lower (Kd.R_new' ho0 (Kd.R_lt (ro HO_10.out))) (below_size (bo HB)));replace HO_10:=am (Kd.R_elder' (ro HO_10.out) (Kd.R_base ho0) hb);replace BK456:=bb BK456 hb;replace HB:=bs HB hb;(try clear hb);(try clear ho0);obtain ⟨Ao45,co45,eo45⟩:=Kd.R_slice HO483.out;subst eo45));go_loopg [75] k2 (fun kq v75 w'=>∃ (x12_3:List Int) (x75_3:Int),v75=.int .i64 x75_3∧Aside0 (impl_LevelsBack.l2 kq l0 x10_2 x59_2 x12_3 x59_2 (t480.length:Int) x75_3 a1_0 a1_1 false false=some (r1,r2))∧Aside0 (kq≤k2)∧Aside0 (Kd.R (Kd.int .i64) 3 w' w.heap.size (fun k_=>some k_≠((.slice Ao45 t480.length co45):Value).ownBlock) v477 x10_2)∧Aside0 (Kd.R (Kd.int .i64) 3 w' w.heap.size (fun k_=>some k_≠(v477:Value).ownBlock) (.slice Ao45 t480.length co45) x12_3)∧Aside0 (w'.heap[gb456]?=some (.cells #[.bool a1_0,.int .i64 a1_1,.bool false,.bool false] 29 (0,0)))∧Aside0 (Below w.heap.size w w'))
        case atStart=>exact ⟨(t480),(0),rv,H',⟨Nat.le_refl _⟩,(ra (Kd.R_mono HO_10.out (fun _ hk=>hk.2))),(ra (Kd.R_mono HO483.out (fun _ hk=>hk.2))),bk BK456,bh HB⟩
        case round =>
         clear H';try clear q2
         try clear hx2
         try clear hf2
         try clear q4
         try clear hx4
         try clear q26
         try clear hx26
         try clear hf26
         try clear z15a z15b z15c z15d z15p z15q z15r z15s
         try clear z19a z19b z19c z19d z19p z19q z19r z19s
         try clear z27a z27b z27c z27d z27p z27q z27r z27s
         try clear z34a z34b z34c z34d z34p z34q z34r z34s
         try clear z8a z8b z8c z8d z8p z8q z8r z8s
         try clear hx26_0
         try clear hx470_0
         try clear q2
         try clear q26
         try clear q4
         try clear q470
         obtain ⟨x12_3,x75_3,rfl,HA,HK3,HO_10,HO_12,BK456,HB⟩:=hrel;have hl12_3:=(Kd.R_reads' HO_12.out).1;rw [hl12_3] at HO_12;(try simp only [hl12_3])
         (try simp only [hl12_3] at BK456)
         (try simp only [hl12_3] at HO_10)
         cases gk with
         | zero=>exact absurd HA.out (by simp [impl_LevelsBack.l2])
         | succ k3 =>
          have H:=HA.out;clear HA;simp only [impl_LevelsBack.l2] at H;by_cases c46:x75_3 < (t480.length:Int)
          ·rw [if_pos c46] at H;have c46b0:=decide_eq_true c46;(try (have c46b0h:=c46b0;simp only [hl12_3] at c46b0h))
           clear c46;replace H:=ifn H;obtain ⟨c47,H⟩:=H;have c47b0:=decide_eq_true c47;(try (have c47b0h:=c47b0;simp only [hl12_3] at c47b0h))
           clear c47;replace H:=ifn H;obtain ⟨c48,H⟩:=H;have c48b0:=decide_eq_true c48;(try (have c48b0h:=c48b0;simp only [hl12_3] at c48b0h))
           clear c48;replace H:=bnd H;obtain ⟨t485,A49,H⟩:=H;obtain ⟨y486,hy486⟩:∃ y_:List Int,y_=(x12_3.set (x75_3:Int).toNat t485):=⟨_,rfl⟩
           replace H:(impl_LevelsBack.l2 k3 l0 x10_2 x59_2 y486 x59_2 (t480.length:Int) (wrap64 (x75_3 + 1)) a1_0 a1_1 false false)=some (r1,r2):=by subst hy486;exact H
           have Ny486:=am hy486;clear hy486;have H':=am H;clear H;have p484:0≤(x75_3:Int):=od;have q484:x75_3 < (x12_3.length:Int):=od;obtain ⟨ad484,e484,hx484_0⟩:=Kd.at_int (Kd.R_reads' HO_12.out).2.2 x75_3 p484 q484;cases e484;replace p484:=eq_true p484;replace q484:=eq_true q484;obtain ⟨z51a,z51b,z51c,z51d,z51p,z51q,z51r,z51s⟩:=cl4 BK456;go_wp2_with (first|((with_reducible refine gc 61 ?_);refine gB (some 86) Tryz.func61 _ (impl_SmallBack.calls _ _ _ _ _ _ A49.out) ?_;intro w52 hb;replace HO_10:=am (Kd.R_below (ro HO_10.out) hb);replace HO_12:=am (Kd.R_below (ro HO_12.out) hb);replace BK456:=bb BK456 hb;replace HB:=bs HB hb;have p50:0≤(x75_3:Int):=od;have q50:(x75_3:Int) < ((x12_3.length:Int):Int):=od;obtain ⟨go50,co50,eo50,gb50,gl50,cl50,HG50⟩:=Kd.R_form HO_12.out (by omega);(first | cases eo50|(injection eo50 with ea_ en_ ec_;(first | subst ea_|(injection ea_ with ea_;subst ea_));subst ec_;clear en_));have GB50:=am gb50;have GG50:=am HG50;clear gb50 gl50 HG50;(first | simp only [add_plain] at hx484_0 | skip);obtain ⟨hx50_0,hf50_0⟩:=Kd.R_celln 0 HO_12.out (x75_3:Int) p50 q50;replace p50:=eq_true p50;replace q50:=eq_true q50;obtain ⟨hy53_,hz53_⟩:=Kd.R_celln 0 HO_12.out (x75_3:Int) (od) (od);have HP53:=Kd.R_putg HO_12.out (x75_3:Int) t485)|((with_reducible refine gate_store (t:=3) (p:=87) rfl ?_);refine store_event (t:=3) (p:=87) (v:=?vo_w54) (w1:=(w52.setCell ⟨go50,(x75_3:Int).toNat,none⟩ (.int .i64 t485))) ?hg ?ho ?hn ?hr ?_;(case ho=>rfl);(case hg=>rfl);(case hn=>rfl);(case hr=>first|(go_simp;done)|(go_simp;rfl));intro w54 hw;have hg:w52.grownBy w54 (some go50):=(by rw [hw];exact HP53.2);have hp_:Kd.R (Kd.int .i64) 3 w54 w.heap.size (fun k_=>some k_≠(v477:Value).ownBlock) (.slice (some ⟨go50,0,none⟩) x12_3.length co45) y486:=(by rw [hw,Ny486.out];exact HP53.1);clear HP53;replace HO_10:=am (Kd.R_after (v:=(.slice (some ⟨go50,0,none⟩) x12_3.length co45)) (v1:=(.slice (some ⟨go50,0,none⟩) x12_3.length co45)) (ok:=(fun _=>True)) (ro (Kd.R_mono HO_10.out (fun _ hk=>⟨trivial,hk⟩))) hg (.inl rfl));replace BK456:=am (blk_grown (bt BK456) hg (Kd.R_ne HO_12.out BK456.out (by decide)));replace HO_12:=am (hp_);replace HB:=am ((by rw [hw];exact below_set (HB.out) GB50.out:Below w.heap.size w w54));clear hg hw hp_));(try simp only [← hl12_3])
           go_roundg k3;case measure=>have:=HJ2.out;have:=HK2.out;have:=HK3.out;omega
           case rel=>exact ⟨(y486),(wrap64 (x75_3 + 1)),rv,H',⟨by have:=HJ2.out;have:=HK2.out;have:=HK3.out;omega⟩,⟨by (try simp only [hl12_3]);(with_reducible repeat (first | apply Kd.R_alloc | apply Kd.R_drewN | apply Kd.R_drew));exact Kd.R_mono HO_10.out (fun _ hk=>hk.2)⟩,⟨by (try simp only [hl12_3]);(with_reducible repeat (first | apply Kd.R_alloc | apply Kd.R_drewN | apply Kd.R_drew));exact HO_12.out⟩,⟨by (try simp only [hl12_3]);(with_reducible repeat (first | refine blk_drewN ?_ _ | refine blk_drew ?_ | refine blk_alloc ?_ _));exact BK456.out⟩,bh HB⟩
          ·rw [if_neg c46] at H;have c46b0:=decide_eq_false c46;(try (have c46b0h:=c46b0;simp only [hl12_3] at c46b0h))
           clear c46;replace H:=bnd H;obtain ⟨t487,A55,H⟩:=H;replace H:=bnd H;obtain ⟨t490,A56,H⟩:=H;have H':=am H;clear H;go_wp2_with (first|((with_reducible refine gc 62 ?_);refine gX (some 90) Tryz.func62 _ (impl_FourBack.calls _ _ _ _ _ _ (ca ((Kd.R_reads' HO_12.out).2.2)) ((Kd.R_reads' HO_12.out).2.1) A55.out) ?_;rintro v488 w57 ⟨ho0,hb⟩;have HO489:=am (Kd.R_lower (Kd.R_new' (Kd.R_new' ho0 (Kd.R_lt (ro HO_10.out))) (Kd.R_lt (ro HO_12.out))) (below_size (bo HB)));replace HO_10:=am (Kd.R_elder' (ro HO_10.out) (Kd.R_base ho0) hb);replace HO_12:=am (Kd.R_elder' (ro HO_12.out) (Kd.R_base ho0) hb);replace BK456:=bb BK456 hb;replace HB:=bs HB hb;(try clear hb);(try clear ho0))|((with_reducible refine gc 63 ?_);refine gX (some 92) Tryz.func63 _ (impl_quarter.calls _ _ _ _ A56.out) ?_;rintro v491 w58 ⟨ho0,hb⟩;have HO492:=am (Kd.R_lower (Kd.R_new' (Kd.R_new' (Kd.R_new' ho0 (Kd.R_lt (ro HO_10.out))) (Kd.R_lt (ro HO_12.out))) (Kd.R_lt (ro HO489.out))) (below_size (bo HB)));replace HO_10:=am (Kd.R_elder' (ro HO_10.out) (Kd.R_base ho0) hb);replace HO_12:=am (Kd.R_elder' (ro HO_12.out) (Kd.R_base ho0) hb);replace HO489:=am (Kd.R_elder' (ro HO489.out) (Kd.R_base ho0) hb);replace BK456:=bb BK456 hb;replace HB:=bs HB hb;(try clear hb);(try clear ho0);obtain ⟨Ao59,co59,eo59⟩:=Kd.R_slice HO492.out;subst eo59));go_loopg [94] k3 (fun kq v94 w'=>∃ (x10_4:List Int) (x94_4:Int),v94=.int .i64 x94_4∧Aside0 (impl_LevelsBack.l3 kq l0 x10_4 t487 x59_2 t490 (t490.length:Int) x94_4 a1_0 a1_1 false false=some (r1,r2))∧Aside0 (kq≤k3)∧Aside0 (Kd.R (Kd.int .i64) 3 w' w.heap.size (fun k_=>some k_≠(v488:Value).ownBlock∧some k_≠((.slice Ao59 t490.length co59):Value).ownBlock) v477 x10_4)∧Aside0 (Kd.R (Kd.int .i64) 3 w' w.heap.size (fun k_=>some k_≠(v477:Value).ownBlock∧some k_≠((.slice Ao59 t490.length co59):Value).ownBlock) v488 t487)∧Aside0 (Kd.R (Kd.int .i64) 3 w' w.heap.size (fun k_=>some k_≠(v477:Value).ownBlock∧some k_≠(v488:Value).ownBlock) (.slice Ao59 t490.length co59) t490)∧Aside0 (w'.heap[gb456]?=some (.cells #[.bool a1_0,.int .i64 a1_1,.bool false,.bool false] 29 (0,0)))∧Aside0 (Below w.heap.size w w'))
           case atStart=>exact ⟨(x10_2),(0),rv,H',⟨Nat.le_refl _⟩,⟨by (try simp only [hl12_3]);(with_reducible repeat (first | apply Kd.R_alloc | apply Kd.R_drewN | apply Kd.R_drew));exact Kd.R_mono HO_10.out (fun _ hk=>⟨hk.1.2,hk.2⟩)⟩,⟨by (try simp only [hl12_3]);(with_reducible repeat (first | apply Kd.R_alloc | apply Kd.R_drewN | apply Kd.R_drew));exact Kd.R_mono HO489.out (fun _ hk=>⟨hk.1.1.2,hk.2⟩)⟩,⟨by (try simp only [hl12_3]);(with_reducible repeat (first | apply Kd.R_alloc | apply Kd.R_drewN | apply Kd.R_drew));exact Kd.R_mono HO492.out (fun _ hk=>⟨hk.1.1.2,hk.2⟩)⟩,⟨by (try simp only [hl12_3]);(with_reducible repeat (first | refine blk_drewN ?_ _ | refine blk_drew ?_ | refine blk_alloc ?_ _));exact BK456.out⟩,bh HB⟩
           case round =>
            clear H';try clear q2
            try clear hx2
            try clear hf2
            try clear q4
            try clear hx4
            try clear q5
            try clear hx5
            try clear hf5
            try clear q26
            try clear hx26
            try clear hf26
            try clear q47
            try clear hx47
            try clear q48
            try clear hx48
            try clear q50
            try clear hx50
            try clear hf50
            try clear z15a z15b z15c z15d z15p z15q z15r z15s
            try clear z19a z19b z19c z19d z19p z19q z19r z19s
            try clear z27a z27b z27c z27d z27p z27q z27r z27s
            try clear z34a z34b z34c z34d z34p z34q z34r z34s
            try clear z51a z51b z51c z51d z51p z51q z51r z51s
            try clear z8a z8b z8c z8d z8p z8q z8r z8s
            try clear hx26_0
            try clear hx470_0
            try clear hx484_0
            try clear hx50_0
            try clear q2
            try clear q26
            try clear q4
            try clear q470
            try clear q484
            try clear q50
            obtain ⟨x10_4,x94_4,rfl,HA,HK4,HO_10,HO_16,HO_92,BK456,HB⟩:=hrel;cases gk with
            | zero=>exact absurd HA.out (by simp [impl_LevelsBack.l3])
            | succ k4 =>
             have H:=HA.out;clear HA;simp only [impl_LevelsBack.l3] at H;by_cases c60:x94_4 < (t490.length:Int);rotate_left
             ·rw [if_neg c60] at H;have c60b0:=decide_eq_false c60;(try (have c60b0h:=c60b0;simp only [hl12_3] at c60b0h))
              clear c60;have H':=am H;clear H;go_wp2;(try simp only [← hl12_3])
              go_roundg k4;case measure=>have:=HJ2.out;have:=HK2.out;have:=HK3.out;have:=HK4.out;omega
              case rel=>exact ⟨(x10_4),(wrap64 (x59_2 + 1)),rv,H',⟨by have:=HJ2.out;have:=HK2.out;have:=HK3.out;have:=HK4.out;omega⟩,⟨by (try simp only [hl12_3]);(with_reducible repeat (first | apply Kd.R_alloc | apply Kd.R_drewN | apply Kd.R_drew));exact Kd.R_mono HO_10.out (fun _ hk=>trivial)⟩,⟨by (try simp only [hl12_3]);(with_reducible repeat (first | refine blk_drewN ?_ _ | refine blk_drew ?_ | refine blk_alloc ?_ _));exact BK456.out⟩,bh HB⟩
             rw [if_pos c60] at H;have c60b0:=decide_eq_true c60;(try (have c60b0h:=c60b0;simp only [hl12_3] at c60b0h))
             clear c60;replace H:=ifn H;obtain ⟨c61,H⟩:=H;have c61b0:=decide_eq_true c61;(try (have c61b0h:=c61b0;simp only [hl12_3] at c61b0h))
             clear c61;replace H:=ifn H;obtain ⟨c62,H⟩:=H;have c62b0:=decide_eq_true c62;(try (have c62b0h:=c62b0;simp only [hl12_3] at c62b0h))
             clear c62;replace H:=ifn H;obtain ⟨c63,H⟩:=H;have c63b0:=decide_eq_true c63;(try (have c63b0h:=c63b0;simp only [hl12_3] at c63b0h))
             clear c63;replace H:=ifn H;obtain ⟨c64,H⟩:=H;have c64b0:=decide_eq_true c64;(try (have c64b0h:=c64b0;simp only [hl12_3] at c64b0h))
             clear c64;replace H:=ifn H;obtain ⟨c65,H⟩:=H;have c65b0:=decide_eq_true c65;(try (have c65b0h:=c65b0;simp only [hl12_3] at c65b0h))
             clear c65;obtain ⟨y495,hy495⟩:∃ y_:List Int,y_=(x10_4.set ((rd t490 x94_4):Int).toNat (rd t487 x94_4)):=⟨_,rfl⟩
             replace H:(impl_LevelsBack.l3 k4 l0 y495 t487 x59_2 t490 (t490.length:Int) (wrap64 (x94_4 + 1)) a1_0 a1_1 false false)=some (r1,r2):=by subst hy495;exact H
             have Ny495:=am hy495;clear hy495;have H':=am H;clear H;have p493:0≤(x94_4:Int):=od;have q493:x94_4 < (t490.length:Int):=od;obtain ⟨ad493,e493,hx493_0⟩:=Kd.at_int (Kd.R_reads' HO_92.out).2.2 x94_4 p493 q493;cases e493;replace p493:=eq_true p493;replace q493:=eq_true q493;obtain ⟨Ao67,co67,eo67⟩:=Kd.R_slice HO_16.out;subst eo67;have p494:0≤(x94_4:Int):=od;have q494:x94_4 < (t487.length:Int):=od;obtain ⟨ad494,e494,hx494_0⟩:=Kd.at_int (Kd.R_reads' HO_16.out).2.2 x94_4 p494 q494;cases e494;replace p494:=eq_true p494;replace q494:=eq_true q494;have p66:0≤((rd t490 x94_4):Int):=od;have q66:((rd t490 x94_4):Int) < ((x10_4.length:Int):Int):=od;obtain ⟨go66,co66,eo66,gb66,gl66,cl66,HG66⟩:=Kd.R_form HO_10.out (by omega);(first | cases eo66|(injection eo66 with ea_ en_ ec_;(first | subst ea_|(injection ea_ with ea_;subst ea_));subst ec_;clear en_))
             have GB66:=am gb66;have GG66:=am HG66;clear gb66 gl66 HG66;obtain ⟨hx66_0,hf66_0⟩:=Kd.R_celln 0 HO_10.out ((rd t490 x94_4):Int) p66 q66;replace p66:=eq_true p66;replace q66:=eq_true q66;have HP68:=Kd.R_putg HO_10.out ((rd t490 x94_4):Int) (rd t487 x94_4);go_wp2_with (first|((with_reducible refine gate_store (t:=3) (p:=105) rfl ?_);refine store_event (t:=3) (p:=105) (v:=?vo_w69) (w1:=(wr.setCell ⟨go66,((rd t490 x94_4):Int).toNat,none⟩ (.int .i64 (rd t487 x94_4)))) ?hg ?ho ?hn ?hr ?_;(case ho=>rfl);(case hg=>rfl);(case hn=>rfl);(case hr=>first|(go_simp;done)|(go_simp;rfl));intro w69 hw;have hg:wr.grownBy w69 (some go66):=(by rw [hw];exact HP68.2);have hp_:Kd.R (Kd.int .i64) 3 w69 w.heap.size (fun k_=>some k_≠(.slice (some ad494) t487.length co67:Value).ownBlock∧some k_≠(.slice (some ad493) t490.length co59:Value).ownBlock) (.slice (some ⟨go66,0,none⟩) x10_4.length co66) y495:=(by rw [hw,Ny495.out];exact HP68.1);clear HP68;replace HO_16:=am (Kd.R_after (v:=(.slice (some ⟨go66,0,none⟩) x10_4.length co66)) (v1:=(.slice (some ⟨go66,0,none⟩) x10_4.length co66)) (ok:=(fun k_=>some k_≠(.slice (some ad493) t490.length co59:Value).ownBlock)) (ro (Kd.R_mono HO_16.out (fun _ hk=>⟨hk.2,hk.1⟩))) hg (.inl rfl));replace HO_92:=am (Kd.R_after (v:=(.slice (some ⟨go66,0,none⟩) x10_4.length co66)) (v1:=(.slice (some ⟨go66,0,none⟩) x10_4.length co66)) (ok:=(fun k_=>some k_≠(.slice (some ad494) t487.length co67:Value).ownBlock)) (ro (Kd.R_mono HO_92.out (fun _ hk=>⟨hk.2,hk.1⟩))) hg (.inl rfl));replace BK456:=am (blk_grown (bt BK456) hg (Kd.R_ne HO_10.out BK456.out (by decide)));replace HO_10:=am (hp_);replace HB:=am ((by rw [hw];exact below_set (HB.out) GB66.out:Below w.heap.size w w69));clear hg hw hp_));go_roundg k4;case measure=>have:=HJ2.out;have:=HK2.out;have:=HK3.out;have:=HK4.out;omega
             case rel=>exact ⟨(y495),(wrap64 (x94_4 + 1)),rv,H',⟨by have:=HJ2.out;have:=HK2.out;have:=HK3.out;have:=HK4.out;omega⟩,⟨by (try simp only [hl12_3]);(with_reducible repeat (first | apply Kd.R_alloc | apply Kd.R_drewN | apply Kd.R_drew));exact HO_10.out⟩,⟨by (try simp only [hl12_3]);(with_reducible repeat (first | apply Kd.R_alloc | apply Kd.R_drewN | apply Kd.R_drew));exact Kd.R_mono HO_16.out (fun _ hk=>⟨hk.2,hk.1⟩)⟩,⟨by (try simp only [hl12_3]);(with_reducible repeat (first | apply Kd.R_alloc | apply Kd.R_drewN | apply Kd.R_drew));exact Kd.R_mono HO_92.out (fun _ hk=>⟨hk.2,hk.1⟩)⟩,⟨by (try simp only [hl12_3]);(with_reducible repeat (first | refine blk_drewN ?_ _ | refine blk_drew ?_ | refine blk_alloc ?_ _));exact BK456.out⟩,bh HB⟩
mutual
def impl_Joined.j0:Nat→List Int→List Int→List Int→Bool→Option (List Int)
 | 0,_,_,_,_=>none
 | k + 1,x0,x1,x5,x16=>if x16=true then (some x5) else (impl_Joined.l0 k x1 x5 x0 (x0.length:Int) 0)
def impl_Joined.l0:Nat→List Int→List Int→List Int→Int→Int→Option (List Int)
 | 0,_,_,_,_,_=>none
 | k + 1,x1,x5,x18,x19,x20=>if x20 < x19 then (if 0≤x20 then (if x20 < (x18.length:Int) then (if x20 < (x1.length:Int) then ((impl_Brought.f (wrap64 ((rd x18 x20) + (rd x1 x20))) 0 255).bind fun t503=>(if x5.length < 17592186044416 then (impl_Joined.l0 k x1 (x5 ++ [t503]) x18 x19 (wrap64 (x20 + 1))) else (none))) else (none)) else (none)) else (none)) else (some x5)
end
def impl_Joined.f (k:Nat) (l0:List Int) (l1:List Int):Option (List Int):=(some (([]:List Int):List Int)).bind fun y496=>((impl_areIn.f k l0 64 0 255).bind fun t499=>(if t499=true then ((impl_areIn.f k l1 64 (-10000000) 10000000).bind fun t500=>(impl_Joined.j0 k l0 l1 y496 (!t500))) else (impl_Joined.j0 k l0 l1 y496 true)))
theorem impl_Joined.calls (k:Nat) (A0:Option Addr) (c0:Nat) (l0:List Int) (A1:Option Addr) (c1:Nat) (l1:List Int) (r:List Int) (w:World) (hr0:Kd.C (Kd.int .i64) w A0 l0.length l0) (hc0:l0.length≤c0) (hr1:Kd.C (Kd.int .i64) w A1 l1.length l1) (hc1:l1.length≤c1) (h:impl_Joined.f k l0 l1=some r) :
  Calls Tryz.prog 39 #[.slice A0 l0.length c0,.slice A1 l1.length c1] w fun e w'=>∃ v0_:Value,e=.returned (v0_)∧Kd.R (Kd.int .i64) 3 w' w.heap.size (fun _=>True) v0_ r∧Below w.heap.size w w':=by
 have HR0:=am hr0;have HC0:=am hc0;clear hr0 hc0;have HR1:=am hr1;have HC1:=am hc1;clear hr1 hc1;have HB:=am (Below.refl w.heap.size w);have H:=h;clear h;unfold impl_Joined.f at H;replace H:=yl H;obtain ⟨y496,Ny496,H⟩:=H;have HC3:=am H;clear H;go_enter Tryz.func39,Tryz.ntmps39;go_upto_region 2 with (first|((with_reducible refine gd 8 ?_);refine Kd.R_lit (Kd.int .i64) _ 3 ?hg (N:=8) ?hd (xs:=([]:List Int)) (inner:=[]) (ok:=fun _=>True) (okp:=fun _=>True) ?hr ?hp (fun _ hk=>hk) trivial (Below.refl _ _) (Nat.le_refl _) (by simp) ?_;(case hd=>rfl);(case hg=>rfl);(case hr=>first|(go_simp;done)|(go_simp;rfl));(case hp=>exact (Reps.none _ _));intro v497 w4 ho5 hb hg_ hnew_;clear hg_ hnew_;(first | rw [← Ny496.out] at ho5|(simp only [Int.reduceToNat] at ho5;rw [← Ny496.out] at ho5));have HO498:=am (Kd.R_lower ho5 (below_size (bo HB)));replace HB:=bs HB hb;clear hb ho5))
 (try simp only [Act.put,List.setIfInBounds_toArray,List.set_cons_zero,List.set_cons_succ])
 go_cut [16] (fun v16 wc=>∃ (kq:Nat) (x16_2:Bool),v16=.bool x16_2∧Aside0 (impl_Joined.j0 kq l0 l1 y496 x16_2=some r)∧Aside0 (kq≤k)∧Aside0 (Kd.R (Kd.int .i64) 3 wc w.heap.size (fun _=>True) v497 y496)∧Aside0 (Below w.heap.size w wc))
 case first =>
  have H:=HC3.out;clear HC3;replace H:=bnd H;obtain ⟨t499,A6,H⟩:=H;replace H:=ifb H;rcases H with ⟨rfl,H⟩ | ⟨rfl,H⟩
  ·replace H:=bnd H;obtain ⟨t500,A8,H⟩:=H;have H':=am H;clear H;go_wp2_with (first|((with_reducible refine gc 64 ?_);refine gD (some 10) Tryz.func64 _ (impl_areIn.calls k _ _ _ _ _ _ _ _ (ca (Kd.C_below HR0.out HB.out)) HC0.out A6.out) ?_;intro nd)|(go_at_call 64;(with_reducible refine (impl_areIn.calls k _ _ l1 64 (-10000000) 10000000 t500 _ ?side1 ?side2 A8.out).mono ?_);(case side1=>exact ca (Kd.C_below HR1.out (bo HB)));(case side2=>exact HC1.out);rintro e w' ⟨rfl,⟨nd,rfl⟩⟩));go_meet;case rel=>exact ⟨_,(!t500),rv,H',om,(ra HO498.out),bh HB⟩
  ·have H':=am H;clear H;go_wp2_with (first|((with_reducible refine gc 64 ?_);refine gD (some 10) Tryz.func64 _ (impl_areIn.calls k _ _ _ _ _ _ _ _ (ca (Kd.C_below HR0.out HB.out)) HC0.out A6.out) ?_;intro nd));go_meet;case rel=>exact ⟨_,(true),rv,H',om,(ra HO498.out),bh HB⟩
 case rest =>
  clear HC3;obtain ⟨kq,x16_2,rfl,HA,HJ2,HO_5,HB⟩:=hcut;cases kq with
  | zero=>exact absurd HA.out (by simp [impl_Joined.j0])
  | succ kj2 =>
   have H:=HA.out;clear HA;simp only [impl_Joined.j0] at H;replace H:=ifb H;rcases H with ⟨rfl,H⟩ | ⟨rfl,H⟩
   ·obtain rfl:=sj H;go_wp2;go_ret;exact ⟨_,re,ro HO_5.out,bo HB⟩
   ·have H':=am H;clear H;go_wp2;go_loopg [5,20] kj2 (fun kq v5 v20 w'=>∃ (x5_2:List Int) (x20_2:Int),v20=.int .i64 x20_2∧Aside0 (impl_Joined.l0 kq l1 x5_2 l0 (l0.length:Int) x20_2=some r)∧Aside0 (kq≤kj2)∧Aside0 (Kd.R (Kd.int .i64) 3 w' w.heap.size (fun _=>True) v5 x5_2)∧Aside0 (Below w.heap.size w w'))
    case atStart=>exact ⟨(y496),(0),rv,H',⟨Nat.le_refl _⟩,(ra HO_5.out),bh HB⟩
    case round =>
     clear H';obtain ⟨x5_2,x20_2,rfl,HA,HK2,HO_5,HB⟩:=hrel;cases gk with
     | zero=>exact absurd HA.out (by simp [impl_Joined.l0])
     | succ k2 =>
      have H:=HA.out;clear HA;simp only [impl_Joined.l0] at H;replace H:=ifd H;rcases H with ⟨c10b0,H⟩ | ⟨c10b0,H⟩;rotate_left
      ·obtain rfl:=sj H;go_wp2;go_ret;exact ⟨_,re,ro HO_5.out,bo HB⟩
      replace H:=ifN H;obtain ⟨c11b0,H⟩:=H;replace H:=ifN H;obtain ⟨c12b0,H⟩:=H;replace H:=ifN H;obtain ⟨c13b0,H⟩:=H;replace H:=bnd H;obtain ⟨t503,A14,H⟩:=H;replace H:=ifn H;obtain ⟨c15,H⟩:=H;have LMc15:=am c15;clear c15;obtain ⟨y504,hy504⟩:∃ y_:List Int,y_=(x5_2 ++ [t503]):=⟨_,rfl⟩
      replace H:(impl_Joined.l0 k2 l1 y504 l0 (l0.length:Int) (wrap64 (x20_2 + 1)))=some r:=by subst hy504;exact H
      have Ny504:=am hy504;clear hy504;have H':=am H;clear H;have p501:0≤(x20_2:Int):=od;have q501:x20_2 < (l0.length:Int):=od;obtain ⟨ad501,e501,hx501_0⟩:=Kd.at_int HR0.out x20_2 p501 q501;cases e501;replace hx501_0:=(HB.out.cell (World.block_lt_of_cell? w _ hx501_0)).trans hx501_0;replace p501:=eq_true p501;replace q501:=eq_true q501;have p502:0≤(x20_2:Int):=od;have q502:x20_2 < (l1.length:Int):=od;obtain ⟨ad502,e502,hx502_0⟩:=Kd.at_int HR1.out x20_2 p502 q502;cases e502;replace hx502_0:=(HB.out.cell (World.block_lt_of_cell? w _ hx502_0)).trans hx502_0;replace p502:=eq_true p502;replace q502:=eq_true q502;go_wp2_with (first|((with_reducible refine gc 65 ?_);refine gB (some 32) Tryz.func65 _ (impl_Brought.calls _ _ _ _ _ A14.out) ?_ (hargs:=(by (try simp only [List.map_toArray,List.map_cons,List.map_nil]);first | done | rfl|(rw [show (wrap64 ((rd l0 x20_2) + (rd l1 x20_2)))=((rd l0 x20_2) + (rd l1 x20_2)) from by unfold wrap64;omega];rfl)|(simp only [List.length_drop,List.length_take];rfl)));intro w16 hb;replace HO_5:=am (Kd.R_below (ro HO_5.out) hb);replace HB:=bs HB hb)|((with_reducible refine gate_builtin (b:=.append) (xs:=#[.tmp 25,.tmp 33]) rfl ?_);at_builtin;refine Kd.R_append (Kd.int .i64) (w0:=w) w.heap.size rfl (.tmp 25) (.tmp 33) 33 3 (.int .i64 0) 8 rfl Tryz.underlying33 info3 rfl (by decide) (by omega) u5 x5_2 t503 [.int .i64 t503] (fun _=>True) (fun _=>False) rfl rfl ?aP (fun _ hk=>hk.elim) ?aF ?aO ?aB ?aS ?aL ?_;(case aP=>exact rfl);(case aB=>exact (bo HB));(case aF=>exact (fun _ _=>trivial));(case aO=>exact (ro HO_5.out));(case aS=>exact (below_size (bo HB)));(case aL=>have:=LMc15.out;omega);intro v505 w17 ho hb hg hat;rw [← Ny504.out] at ho;have HO506:=am (ho);replace HB:=am (hb);clear HO_5;clear ho hb hg hat));go_roundg k2;case measure=>have:=HJ2.out;have:=HK2.out;omega
      case rel=>exact ⟨(y504),(wrap64 (x20_2 + 1)),rv,H',⟨by have:=HJ2.out;have:=HK2.out;omega⟩,(ra HO506.out),bh HB⟩
end Go.Proofs.YtdfekcelcdkjlaaGreat.QFnConfined
