/- Walks of what the law reaches. -/
import Derived.Test.YtdfekcelcdkjlaaGreatQFnConfinedx0
import Derived.Test.YtdfekcelcdkjlaaGreatQFnConfinedx5
import Derived.Test.YtdfekcelcdkjlaaGreatQFnConfinedx6
namespace Go.Proofs.YtdfekcelcdkjlaaGreat.QFnConfined
open Go.RowKit Go.Proofs.YtdfekcelcdkjlaaGreatW.PrintWords Go.Proofs.YtdfekcelcdkjlaaGreatW.PrintLast Go.Proofs.YtdfekcelcdkjlaaGreatW.PrintMore Go.Proofs.YtdfekcelcdkjlaaGreatV
attribute [local go_sem] max2_int min2_int max_two min_two max_three min_three max_four min_four
set_option linter.unusedVariables false
set_option linter.unusedSimpArgs false
set_option maxHeartbeats 8000000
set_option maxRecDepth 100000
mutual
def spec_l10Sums.l0:Nat→List Int→List Int→Int→Option (List Int)
 | 0,_,_,_=>none
 | k + 1,x0,x3,x4=>if x4 < 8 then (spec_l10Sums.l1 k x0 x3 x4 0) else (spec_l10Sums.l2 k x3 (([]:List Int)) 0)
def spec_l10Sums.l1:Nat→List Int→List Int→Int→Int→Option (List Int)
 | 0,_,_,_,_=>none
 | k + 1,x0,x3,x4,x5=>if x5 < 8 then ((spec_l10Row.f k x0 x4 x5).bind fun t733=>(if x3.length < 17592186044416 then (spec_l10Sums.l1 k x0 (x3 ++ [t733]) x4 (wrap64 (x5 + 1))) else (none))) else (spec_l10Sums.l0 k x0 x3 (wrap64 (x4 + 1)))
def spec_l10Sums.l2:Nat→List Int→List Int→Int→Option (List Int)
 | 0,_,_,_=>none
 | k + 1,x3,x6,x7=>if x7 < 8 then (spec_l10Sums.l3 k x3 x6 x7 0) else (some x6)
def spec_l10Sums.l3:Nat→List Int→List Int→Int→Int→Option (List Int)
 | 0,_,_,_,_=>none
 | k + 1,x3,x6,x7,x8=>if x8 < 8 then (spec_l10Sums.l4 k x3 x6 x7 x8 0 0) else (spec_l10Sums.l2 k x3 x6 (wrap64 (x7 + 1)))
def spec_l10Sums.l4:Nat→List Int→List Int→Int→Int→Int→Int→Option (List Int)
 | 0,_,_,_,_,_,_=>none
 | k + 1,x3,x6,x7,x8,x9,x10=>if x10 < 8 then ((spec_SignOf.f k x7 x10).bind fun t740=>(if 0≤(wrap64 ((wrap64 (8 * x10)) + x8)) then (if (wrap64 ((wrap64 (8 * x10)) + x8)) < (x3.length:Int) then (spec_l10Sums.l4 k x3 x6 x7 x8 (wrap64 (x9 + (wrap64 (t740 * (rd x3 (wrap64 ((wrap64 (8 * x10)) + x8))))))) (wrap64 (x10 + 1))) else (none)) else (none))) else (if x6.length < 17592186044416 then (spec_l10Sums.l3 k x3 (x6 ++ [x9]) x7 (wrap64 (x8 + 1))) else (none))
end
def spec_l10Sums.f (k:Nat) (l0:List Int):Option (List Int):=spec_l10Sums.l0 k l0 (([]:List Int)) 0
def spec_l10Sums.T20:Bool × List (List Nat × List Nat):=(true,[([],[]),([],[]),([],[]),([1,2],[1,2]),([],[]),([],[]),([5],[5]),([],[]),([6,7],[6,7]),([4,8],[4,8]),([9],[9]),([3,10],[3,10]),([0,11],[0,11]),([12,3,0,1,2,3,4,5,6,7,8,9,10,11,12],[0,12])])
def spec_l10Sums.B20:List Nat:=[0,0,0,6,0,0,32,0,224,496,1008,2046,4095,8191]
theorem spec_l10Sums.tab20:rtab .any (opsOf Tryz.f92 20)=spec_l10Sums.T20:=by kernel_rfl
theorem spec_l10Sums.bits20:waitsOk spec_l10Sums.T20.2 spec_l10Sums.B20=true:=by kernel_rfl
theorem spec_l10Sums.calls (k:Nat) (A0:Option Addr) (c0:Nat) (l0:List Int) (r:List Int) (w:World) (hr0:Kd.C (Kd.int .i64) w A0 l0.length l0) (hc0:l0.length≤c0) (h:spec_l10Sums.f k l0=some r) :
  Calls Tryz.prog 92 #[.slice A0 l0.length c0] w fun e w'=>∃ v0_:Value,e=.returned (v0_)∧Kd.R (Kd.int .i64) 3 w' w.heap.size (fun _=>True) v0_ r∧Below w.heap.size w w':=by
 have HR0:=am hr0;have HC0:=am hc0;clear hr0 hc0;have HB:=am (Below.refl w.heap.size w);have H:=h;clear h;unfold spec_l10Sums.f at H;obtain ⟨y730,hy730⟩:∃ y_:List Int,y_=(([]:List Int)):=⟨_,rfl⟩
 replace H:(spec_l10Sums.l0 k l0 y730 0)=some r:=by subst hy730;exact H
 have Ny730:=am hy730;clear hy730;have H':=am H;clear H;go_enter Tryz.func92,Tryz.ntmps92;go_wp2_with (first|((with_reducible refine gd 11 ?_);refine Kd.R_lit (Kd.int .i64) _ 3 ?hg (N:=11) ?hd (xs:=([]:List Int)) (inner:=[]) (ok:=fun _=>True) (okp:=fun _=>True) ?hr ?hp (fun _ hk=>hk) trivial (Below.refl _ _) (Nat.le_refl _) (by simp) ?_;(case hd=>rfl);(case hg=>rfl);(case hr=>first|(go_simp;done)|(go_simp;rfl));(case hp=>exact (Reps.none _ _));intro v731 w2 ho3 hb hg_ hnew_;clear hg_ hnew_;(first | rw [← Ny730.out] at ho3|(simp only [Int.reduceToNat] at ho3;rw [← Ny730.out] at ho3));have HO732:=am (Kd.R_lower ho3 (below_size (bo HB)));replace HB:=bs HB hb;clear hb ho3));go_loopg [3,4] k (fun kq v3 v4 w'=>∃ (x3_1:List Int) (x4_1:Int),v4=.int .i64 x4_1∧Aside0 (spec_l10Sums.l0 kq l0 x3_1 x4_1=some r)∧Aside0 (kq≤k)∧Aside0 (Kd.R (Kd.int .i64) 3 w' w.heap.size (fun _=>True) v3 x3_1)∧Aside0 (Below w.heap.size w w'))
 case atStart=>exact ⟨(y730),(0),rv,H',⟨Nat.le_refl _⟩,(ra HO732.out),bh HB⟩
 case round =>
  clear H';obtain ⟨x3_1,x4_1,rfl,HA,HK1,HO_3,HB⟩:=hrel;cases gk with
  | zero=>exact absurd HA.out (by simp [spec_l10Sums.l0])
  | succ k1 =>
   have H:=HA.out;clear HA;simp only [spec_l10Sums.l0] at H;replace H:=ifd H;rcases H with ⟨c4b0,H⟩ | ⟨c4b0,H⟩
   ·have H':=am H;clear H;go_wp2;go_loopg [3,5] k1 (fun kq v3 v5 w'=>∃ (x3_2:List Int) (x5_2:Int),v5=.int .i64 x5_2∧Aside0 (spec_l10Sums.l1 kq l0 x3_2 x4_1 x5_2=some r)∧Aside0 (kq≤k1)∧Aside0 (Kd.R (Kd.int .i64) 3 w' w.heap.size (fun _=>True) v3 x3_2)∧Aside0 (Below w.heap.size w w'))
    case atStart=>exact ⟨(x3_1),(0),rv,H',⟨Nat.le_refl _⟩,(ra HO_3.out),bh HB⟩
    case round =>
     clear H';obtain ⟨x3_2,x5_2,rfl,HA,HK2,HO_3,HB⟩:=hrel;cases gk with
     | zero=>exact absurd HA.out (by simp [spec_l10Sums.l1])
     | succ k2 =>
      have H:=HA.out;clear HA;simp only [spec_l10Sums.l1] at H;replace H:=ifd H;rcases H with ⟨c5b0,H⟩ | ⟨c5b0,H⟩;rotate_left
      ·have H':=am H;clear H;go_wp2;go_roundg k2;case measure=>have:=HK1.out;have:=HK2.out;omega
       case rel=>exact ⟨(x3_2),(wrap64 (x4_1 + 1)),rv,H',⟨by have:=HK1.out;have:=HK2.out;omega⟩,(ra HO_3.out),bh HB⟩
      replace H:=bnd H;obtain ⟨t733,A6,H⟩:=H;by_cases c7:x3_2.length < 17592186044416
      ·rw [if_pos c7] at H;have LMc7:=am c7;clear c7;obtain ⟨y734,hy734⟩:∃ y_:List Int,y_=(x3_2 ++ [t733]):=⟨_,rfl⟩
       replace H:(spec_l10Sums.l1 k2 l0 y734 x4_1 (wrap64 (x5_2 + 1)))=some r:=by subst hy734;exact H
       have Ny734:=am hy734;clear hy734;have H':=am H;clear H;go_wp2_with (first|((with_reducible refine gc 101 ?_);refine gB (some 24) Tryz.func101 _ (spec_l10Row.calls _ _ _ _ _ _ _ _ (ca (Kd.C_below HR0.out HB.out)) HC0.out A6.out) ?_;intro w8 hb;replace HO_3:=am (Kd.R_below (ro HO_3.out) hb);replace HB:=bs HB hb)|((with_reducible refine gate_builtin (b:=.append) (xs:=#[.tmp 20,.tmp 25]) rfl ?_);at_builtin;refine Kd.R_append (Kd.int .i64) (w0:=w) w.heap.size rfl (.tmp 20) (.tmp 25) 33 3 (.int .i64 0) 8 rfl Tryz.underlying33 info3 rfl (by decide) (by omega) u3 x3_2 t733 [.int .i64 t733] (fun _=>True) (fun _=>False) rfl rfl ?aP (fun _ hk=>hk.elim) ?aF ?aO ?aB ?aS ?aL ?_;(case aP=>exact rfl);(case aB=>exact (bo HB));(case aF=>exact (fun _ _=>trivial));(case aO=>exact (ro HO_3.out));(case aS=>exact (below_size (bo HB)));(case aL=>have:=LMc7.out;omega);intro v735 w9 ho hb hg hat;rw [← Ny734.out] at ho;have HO736:=am (ho);replace HB:=am (hb);clear HO_3;clear ho hb hg hat));go_roundg k2;case measure=>have:=HK1.out;have:=HK2.out;omega
       case rel=>exact ⟨(y734),(wrap64 (x5_2 + 1)),rv,H',⟨by have:=HK1.out;have:=HK2.out;omega⟩,(ra HO736.out),bh HB⟩
      ·rw [if_neg c7] at H;cases H
   ·obtain ⟨y737,hy737⟩:∃ y_:List Int,y_=(([]:List Int)):=⟨_,rfl⟩
    replace H:(spec_l10Sums.l2 k1 x3_1 y737 0)=some r:=by subst hy737;exact H
    have Ny737:=am hy737;clear hy737;have H':=am H;clear H;go_wp2_with (first|((with_reducible refine gd 27 ?_);refine Kd.R_lit (Kd.int .i64) _ 3 ?hg (N:=27) ?hd (xs:=([]:List Int)) (inner:=[]) (ok:=fun _=>True) (okp:=fun _=>True) ?hr ?hp (fun _ hk=>hk) trivial (Below.refl _ _) (Nat.le_refl _) (by simp) ?_;(case hd=>rfl);(case hg=>rfl);(case hr=>first|(go_simp;done)|(go_simp;rfl));(case hp=>exact (Reps.none _ _));intro v738 w10 ho11 hb hg_ hnew_;clear hg_ hnew_;(first | rw [← Ny737.out] at ho11|(simp only [Int.reduceToNat] at ho11;rw [← Ny737.out] at ho11));have HO739:=am (Kd.R_lower (Kd.R_new' ho11 (Kd.R_lt (ro HO_3.out))) (below_size (bo HB)));replace HO_3:=am (Kd.R_elder' (ro HO_3.out) (Kd.R_base ho11) hb);replace HB:=bs HB hb;clear hb ho11));go_loopg [6,7] k1 (fun kq v6 v7 w'=>∃ (x6_2:List Int) (x7_2:Int),v7=.int .i64 x7_2∧Aside0 (spec_l10Sums.l2 kq x3_1 x6_2 x7_2=some r)∧Aside0 (kq≤k1)∧Aside0 (Kd.R (Kd.int .i64) 3 w' w.heap.size (fun k_=>some k_≠(v6:Value).ownBlock) u3 x3_1)∧Aside0 (Kd.R (Kd.int .i64) 3 w' w.heap.size (fun k_=>some k_≠(u3:Value).ownBlock) v6 x6_2)∧Aside0 (Below w.heap.size w w'))
    case atStart=>exact ⟨(y737),(0),rv,H',⟨Nat.le_refl _⟩,(ra (Kd.R_mono HO_3.out (fun _ hk=>hk.2))),(ra (Kd.R_mono HO739.out (fun _ hk=>hk.2))),bh HB⟩
    case round =>
     clear H';obtain ⟨x6_2,x7_2,rfl,HA,HK2,HO_3,HO_6,HB⟩:=hrel;cases gk with
     | zero=>exact absurd HA.out (by simp [spec_l10Sums.l2])
     | succ k2 =>
      have H:=HA.out;clear HA;simp only [spec_l10Sums.l2] at H;replace H:=ifd H;rcases H with ⟨c12b0,H⟩ | ⟨c12b0,H⟩;rotate_left
      ·obtain rfl:=sj H;go_wp2;go_ret;exact ⟨_,re,ro (Kd.R_mono HO_6.out (fun _ hk=>trivial)),bo HB⟩
      have H':=am H;clear H;go_wp2;go_loopg [6,8] k2 (fun kq v6 v8 w'=>∃ (x6_3:List Int) (x8_3:Int),v8=.int .i64 x8_3∧Aside0 (spec_l10Sums.l3 kq x3_1 x6_3 x7_2 x8_3=some r)∧Aside0 (kq≤k2)∧Aside0 (Kd.R (Kd.int .i64) 3 w' w.heap.size (fun k_=>some k_≠(v6:Value).ownBlock) u3 x3_1)∧Aside0 (Kd.R (Kd.int .i64) 3 w' w.heap.size (fun k_=>some k_≠(u3:Value).ownBlock) v6 x6_3)∧Aside0 (Below w.heap.size w w'))
      case atStart=>exact ⟨(x6_2),(0),rv,H',⟨Nat.le_refl _⟩,(ra HO_3.out),(ra HO_6.out),bh HB⟩
      case round =>
       clear H';obtain ⟨x6_3,x8_3,rfl,HA,HK3,HO_3,HO_6,HB⟩:=hrel;cases gk with
       | zero=>exact absurd HA.out (by simp [spec_l10Sums.l3])
       | succ k3 =>
        have H:=HA.out;clear HA;simp only [spec_l10Sums.l3] at H;replace H:=ifd H;rcases H with ⟨c13b0,H⟩ | ⟨c13b0,H⟩;rotate_left
        ·have H':=am H;clear H;go_wp2;go_roundg k3;case measure=>have:=HK1.out;have:=HK2.out;have:=HK3.out;omega
         case rel=>exact ⟨(x6_3),(wrap64 (x7_2 + 1)),rv,H',⟨by have:=HK1.out;have:=HK2.out;have:=HK3.out;omega⟩,(ra HO_3.out),(ra HO_6.out),bh HB⟩
        have H':=am H;clear H;go_wp2;go_loopg [9,10] k3 (fun kq v9 v10 w'=>∃ (x9_4:Int) (x10_4:Int),v9=.int .i64 x9_4∧v10=.int .i64 x10_4∧Aside0 (spec_l10Sums.l4 kq x3_1 x6_3 x7_2 x8_3 x9_4 x10_4=some r)∧Aside0 (kq≤k3)∧Aside0 (Kd.R (Kd.int .i64) 3 w' w.heap.size (fun k_=>some k_≠(u6:Value).ownBlock) u3 x3_1)∧Aside0 (Kd.R (Kd.int .i64) 3 w' w.heap.size (fun k_=>some k_≠(u3:Value).ownBlock) u6 x6_3)∧Aside0 (Below w.heap.size w w'))
        case atStart=>exact ⟨(0),(0),rv,rv,H',⟨Nat.le_refl _⟩,(ra HO_3.out),(ra HO_6.out),bh HB⟩
        case round =>
         clear H';obtain ⟨x9_4,x10_4,rfl,rfl,HA,HK4,HO_3,HO_6,HB⟩:=hrel;cases gk with
         | zero=>exact absurd HA.out (by simp [spec_l10Sums.l4])
         | succ k4 =>
          have H:=HA.out;clear HA;simp only [spec_l10Sums.l4] at H;replace H:=ifd H;rcases H with ⟨c14b0,H⟩ | ⟨c14b0,H⟩;rotate_left
          ·by_cases c21:x6_3.length < 17592186044416
           ·rw [if_pos c21] at H;have LMc21:=am c21;clear c21;obtain ⟨y742,hy742⟩:∃ y_:List Int,y_=(x6_3 ++ [x9_4]):=⟨_,rfl⟩
            replace H:(spec_l10Sums.l3 k4 x3_1 y742 x7_2 (wrap64 (x8_3 + 1)))=some r:=by subst hy742;exact H
            have Ny742:=am hy742;clear hy742;have H':=am H;clear H;go_wp2_with (first|((with_reducible refine gate_builtin (b:=.append) (xs:=#[.tmp 53,.tmp 55]) rfl ?_);at_builtin;refine Kd.R_append (Kd.int .i64) (w0:=w) w.heap.size rfl (.tmp 53) (.tmp 55) 33 3 (.int .i64 0) 8 rfl Tryz.underlying33 info3 rfl (by decide) (by omega) u6 x6_3 x9_4 [.int .i64 x9_4] (fun k_=>some k_≠(u3:Value).ownBlock) (fun _=>False) rfl rfl ?aP (fun _ hk=>hk.elim) ?aF ?aO ?aB ?aS ?aL ?_;(case aP=>exact rfl);(case aB=>exact (bo HB));(case aF=>exact (fun k_ hk=>Kd.fresh' (Kd.R_lt (ro HO_3.out)) k_ hk));(case aO=>exact (ro HO_6.out));(case aS=>exact (below_size (bo HB)));(case aL=>have:=LMc21.out;omega);intro v743 w22 ho hb hg hat;rw [← Ny742.out] at ho;have HO744:=am (ho);replace HO_3:=am (Kd.R_after (ok:=(fun _=>True)) (ro (Kd.R_mono HO_3.out (fun _ hk=>⟨trivial,hk⟩))) hg hat);replace HB:=am (hb);clear HO_6;clear ho hb hg hat));go_roundg k4;case measure=>have:=HK1.out;have:=HK2.out;have:=HK3.out;have:=HK4.out;omega
            case rel=>exact ⟨(y742),(wrap64 (x8_3 + 1)),rv,H',⟨by have:=HK1.out;have:=HK2.out;have:=HK3.out;have:=HK4.out;omega⟩,(ra (Kd.R_mono HO_3.out (fun _ hk=>hk.2))),(ra HO744.out),bh HB⟩
           ·rw [if_neg c21] at H;cases H
          replace H:=bnd H;obtain ⟨t740,A15,H⟩:=H;obtain ⟨ji16,hji16⟩:∃ j_:Int,(wrap64 ((wrap64 (8 * x10_4)) + x8_3))=j_:=⟨_,rfl⟩
          replace H:(if 0≤(ji16) then (if (ji16) < (x3_1.length:Int) then (spec_l10Sums.l4 k4 x3_1 x6_3 x7_2 x8_3 (wrap64 (x9_4 + (wrap64 (t740 * (rd x3_1 (ji16)))))) (wrap64 (x10_4 + 1))) else (none)) else (none))=some r:=by first|(rw [hji16] at H;exact H)|(simp only [hji16] at H ⊢;exact H)
          (try rw [hji16] at A15)
          have hji16w:(IntKind.i64.wrap ((wrap64 (8 * x10_4)) + x8_3))=ji16:=(i64_w _).trans hji16;replace H:=ifN H;obtain ⟨c17b0,H⟩:=H;replace H:=ifN H;obtain ⟨c18b0,H⟩:=H;have H':=am H;clear H;try go_wp2
          replace HO_3:=am (Kd.R_drew HO_3.out);replace HO_6:=am (Kd.R_drew HO_6.out);replace HB:=am (below_drew1 HB.out);obtain ⟨Ao20,co20,eo20⟩:=Kd.R_slice HO_3.out;(first | subst eo20|(injection eo20 with f1_ f2_ f3_;have f4_:=f1_.symm;have f5_:=f3_.symm;clear f1_ f2_ f3_;subst f4_;subst f5_))
          have p741:0≤((ji16):Int):=od;have q741:(ji16) < (x3_1.length:Int):=od;obtain ⟨ad741,e741,hx741_0⟩:=Kd.at_int (Kd.R_reads' HO_3.out).2.2 (ji16) p741 q741;cases e741;replace p741:=eq_true p741;replace q741:=eq_true q741;refine start_ (n:=14) (S:=fun w'=>w'.cell? (ad741.add ((ji16)).toNat)=some (.int .i64 (rd x3_1 (ji16)))) (ds:=[]) (ba 14 0) (by kernel_rfl) rfl rfl (hx741_0) (fun hHeld=>?_);refine with_tabW spec_l10Sums.tab20 spec_l10Sums.bits20 (fun HT_ HW_=>?_);generalize wr.drew=w19 at HO_3 HO_6 HB hx741_0 hHeld ⊢;refine pu 0 40 (ba 14 1) ?_;refine pu 1 41 (ba 14 3) ?_;refine pu 2 42 (ba 14 7) ?_;refine pu 4 44 (ba 14 23) ?_;refine pu 5 45 (ba 14 55) ?_;refine pu 6 46 (ba 14 119) ?_;refine pu 7 47 (ba 14 247) ?_;refine pu 8 48 (ba 14 503) ?_;refine pu 9 49 (ba 14 1015) ?_;refine take_ (i:=10) (N:=some 50) (v:=?_) (a':=?_) (ba 14 2039) rfl rfl (take_ofW HT_.out HW_.out (by kernel_rfl)) (fun _ _ _ h=>h) (Or.inl ⟨by rfl,?_⟩) hHeld ?_ ?_;rotate_left
          ·intro w' s0;go_simp
           with_reducible rfl
          rotate_left
          ·simp only [Act.put,List.setIfInBounds_toArray,List.set_cons_zero,List.set_cons_succ,i64_w,i32_w]
           rfl
          refine on 3 43 (ba 14 2047) (fun K hK=>?_);refine gS Tryz.func102 #[.int .i64 x7_2,.int .i64 x10_4] ?_
          with_reducible refine (spec_SignOf.calls k4 x7_2 x10_4 t740 _ A15.out).mono ?_
          rintro e w' ⟨rfl,⟨nd,rfl⟩⟩;refine ⟨_,rfl,?_⟩;refine hK.out _ _ (hHeld) (fun hHeld=>?_);clear hK K;refine nm ?_;refine pu 11 51 (ba 14 4095) ?_;refine pu 12 52 (ba 14 8191) ?_;refine pu 13 9 (ba 14 16383) ?_;refine done_ (done_of HT_.out (by kernel_rfl)) ?_;try go_wp2
          go_roundg k4;case measure=>have:=HK1.out;have:=HK2.out;have:=HK3.out;have:=HK4.out;omega
          case rel=>exact ⟨(wrap64 (x9_4 + (wrap64 (t740 * (rd x3_1 (ji16)))))),(wrap64 (x10_4 + 1)),(by first | rfl|(simp;done)|(simp only [← hji16] <;> (first | rfl | simp))|(simp [*];done)),rv,H',⟨by have:=HK1.out;have:=HK2.out;have:=HK3.out;have:=HK4.out;omega⟩,(ra HO_3.out),(ra HO_6.out),bh HB⟩
def spec_l09Down.f (a0:Int) (a1:Int):Option (Int):=if a1=0 then (none) else (if (Int.tmod a0 a1) < 0 then (some (wrap64 ((wrap64 (Int.tdiv a0 a1)) - 1))) else (some (wrap64 (Int.tdiv a0 a1))))
theorem spec_l09Down.calls (a0:Int) (a1:Int) (r:Int) (w:World) (h:spec_l09Down.f a0 a1=some r) :
  Calls Tryz.prog 93 #[.int .i64 a0,.int .i64 a1] w fun e w'=>e=.returned (.int .i64 r)∧Drawn0 w w':=by
 have H:=h;clear h;unfold spec_l09Down.f at H;by_cases c3:a1=0
 ·rw [if_pos c3] at H;cases H
 ·rw [if_neg c3] at H;obtain ⟨c3b0,c3b1⟩:=eqf c3;replace H:=ifd H;rcases H with ⟨c4b0,H⟩ | ⟨c4b0,H⟩
  ·obtain rfl:=sj H;go_enter Tryz.func93,Tryz.ntmps93;go_wp2;go_ret;exact ⟨rv,dr⟩
  ·obtain rfl:=sj H;go_enter Tryz.func93,Tryz.ntmps93;go_wp2;go_ret;exact ⟨rv,dr⟩
def spec_EightBack.l0:Nat→List Int→Int→Option (List Int)
 | 0,_,_=>none
 | k + 1,x3,x4=>if x4 < 64 then (if 0≤x4 then (if x4 < (x3.length:Int) then ((spec_l09Down.f (wrap64 ((rd x3 x4) + 32)) 64).bind fun t753=>(spec_EightBack.l0 k (x3.set (x4:Int).toNat t753) (wrap64 (x4 + 1)))) else (none)) else (none)) else (some x3)
def spec_EightBack.f (k:Nat) (l0:List Int):Option (List Int):=(spec_l09All.f k l0 64 10000000).bind fun t745=>(if t745=true then ((spec_l10Sums.f k l0).bind fun t749=>(spec_EightBack.l0 k t749 0)) else (some (([]:List Int))))
theorem spec_EightBack.calls (k:Nat) (A0:Option Addr) (c0:Nat) (l0:List Int) (r:List Int) (w:World) (hr0:Kd.C (Kd.int .i64) w A0 l0.length l0) (hc0:l0.length≤c0) (h:spec_EightBack.f k l0=some r) :
  Calls Tryz.prog 73 #[.slice A0 l0.length c0] w fun e w'=>∃ v0_:Value,e=.returned (v0_)∧Kd.R (Kd.int .i64) 3 w' w.heap.size (fun _=>True) v0_ r∧Below w.heap.size w w':=by
 have HR0:=am hr0;have HC0:=am hc0;clear hr0 hc0;have HB:=am (Below.refl w.heap.size w);have H:=h;clear h;unfold spec_EightBack.f at H;replace H:=bnd H;obtain ⟨t745,A2,H⟩:=H;replace H:=ifb H;rcases H with ⟨rfl,H⟩ | ⟨rfl,H⟩;rotate_left
 ·obtain ⟨y746,hy746⟩:∃ y_:List Int,y_=(([]:List Int)):=⟨_,rfl⟩
  replace H:(some y746)=some r:=by subst hy746;exact H
  have Ny746:=am hy746;clear hy746;obtain rfl:=sj H;go_enter Tryz.func73,Tryz.ntmps73;go_wp2_with (first|((with_reducible refine gc 69 ?_);refine gD (some 6) Tryz.func69 _ (spec_l09All.calls k _ _ _ _ _ _ _ (ca (HR0.out)) HC0.out A2.out) ?_;intro nd)|((with_reducible refine gd 8 ?_);refine Kd.R_lit (Kd.int .i64) _ 3 ?hg (N:=8) ?hd (xs:=([]:List Int)) (inner:=[]) (ok:=fun _=>True) (okp:=fun _=>True) ?hr ?hp (fun _ hk=>hk) trivial (Below.refl _ _) (Nat.le_refl _) (by simp) ?_;(case hd=>rfl);(case hg=>rfl);(case hr=>first|(go_simp;done)|(go_simp;rfl));(case hp=>exact (Reps.none _ _));intro v747 w14 ho15 hb hg_ hnew_;clear hg_ hnew_;(first | rw [← Ny746.out] at ho15|(simp only [Int.reduceToNat] at ho15;rw [← Ny746.out] at ho15));have HO748:=am (Kd.R_lower ho15 (below_size (bo HB)));replace HB:=bs HB hb;clear hb ho15));go_ret;exact ⟨_,re,ro HO748.out,bo HB⟩
 replace H:=bnd H;obtain ⟨t749,A4,H⟩:=H;have H':=am H;clear H;go_enter Tryz.func73,Tryz.ntmps73;go_wp2_with (first|((with_reducible refine gc 69 ?_);refine gD (some 6) Tryz.func69 _ (spec_l09All.calls k _ _ _ _ _ _ _ (ca (HR0.out)) HC0.out A2.out) ?_;intro nd)|((with_reducible refine gc 92 ?_);refine gX (some 10) Tryz.func92 _ (spec_l10Sums.calls k _ _ _ _ _ (ca (HR0.out)) HC0.out A4.out) ?_;rintro v750 w5 ⟨ho0,hb⟩;have HO751:=am (Kd.R_lower ho0 (below_size (bo HB)));replace HB:=bs HB hb;(try clear hb);(try clear ho0)));go_loopg [4] k (fun kq v4 w'=>∃ (x3_1:List Int) (x4_1:Int),v4=.int .i64 x4_1∧Aside0 (spec_EightBack.l0 kq x3_1 x4_1=some r)∧Aside0 (kq≤k)∧Aside0 (Kd.R (Kd.int .i64) 3 w' w.heap.size (fun _=>True) v750 x3_1)∧Aside0 (Below w.heap.size w w'))
 case atStart=>exact ⟨(t749),(0),rv,H',⟨Nat.le_refl _⟩,(ra HO751.out),bh HB⟩
 case round =>
  clear H';obtain ⟨x3_1,x4_1,rfl,HA,HK1,HO_3,HB⟩:=hrel;cases gk with
  | zero=>exact absurd HA.out (by simp [spec_EightBack.l0])
  | succ k1 =>
   have H:=HA.out;clear HA;simp only [spec_EightBack.l0] at H;replace H:=ifd H;rcases H with ⟨c6b0,H⟩ | ⟨c6b0,H⟩;rotate_left
   ·obtain rfl:=sj H;go_wp2;go_ret;exact ⟨_,re,ro HO_3.out,bo HB⟩
   replace H:=ifN H;obtain ⟨c7b0,H⟩:=H;replace H:=ifN H;obtain ⟨c8b0,H⟩:=H;replace H:=bnd H;obtain ⟨t753,A9,H⟩:=H;obtain ⟨y754,hy754⟩:∃ y_:List Int,y_=(x3_1.set (x4_1:Int).toNat t753):=⟨_,rfl⟩
   replace H:(spec_EightBack.l0 k1 y754 (wrap64 (x4_1 + 1)))=some r:=by subst hy754;exact H
   have Ny754:=am hy754;clear hy754;have H':=am H;clear H;obtain ⟨Ao11,co11,eo11⟩:=Kd.R_slice HO_3.out;subst eo11;have p752:0≤(x4_1:Int):=od;have q752:x4_1 < (x3_1.length:Int):=od;obtain ⟨ad752,e752,hx752_0⟩:=Kd.at_int (Kd.R_reads' HO_3.out).2.2 x4_1 p752 q752;cases e752;replace p752:=eq_true p752;replace q752:=eq_true q752;go_wp2_with (first|((with_reducible refine gc 93 ?_);refine gD (some 22) Tryz.func93 _ (spec_l09Down.calls _ _ _ _ A9.out) ?_ (hargs:=(by (try simp only [List.map_toArray,List.map_cons,List.map_nil]);first | done | rfl|(rw [show (wrap64 ((rd x3_1 x4_1) + 32))=((rd x3_1 x4_1) + 32) from by unfold wrap64;omega];rfl)|(simp only [List.length_drop,List.length_take];rfl)));intro nd;(try (rw [drewN_self wr];generalize hq_:World.drewN wr _=wr;have n0_:Aside0 (Kd.R (Kd.int .i64) 3 wr w.heap.size (fun k_=>True) (.slice (some ad752) x3_1.length co11) x3_1):=⟨by rw [← hq_];exact (ro HO_3.out)⟩;have n1_:Aside0 (Below w.heap.size w wr):=⟨by rw [← hq_];exact (bo HB)⟩;clear HO_3 HB hq_;have HO_3:=n0_;have HB:=n1_;clear n0_ n1_));have p10:0≤(x4_1:Int):=od;have q10:(x4_1:Int) < ((x3_1.length:Int):Int):=od;obtain ⟨go10,co10,eo10,gb10,gl10,cl10,HG10⟩:=Kd.R_form HO_3.out (by omega);(first | cases eo10|(injection eo10 with ea_ en_ ec_;(first | subst ea_|(injection ea_ with ea_;subst ea_));subst ec_;clear en_));have GB10:=am gb10;have GG10:=am HG10;clear gb10 gl10 HG10;(first | simp only [add_plain] at hx752_0 | skip);obtain ⟨hx10_0,hf10_0⟩:=Kd.R_celln 0 HO_3.out (x4_1:Int) p10 q10;replace p10:=eq_true p10;replace q10:=eq_true q10;obtain ⟨hy12_,hz12_⟩:=Kd.R_celln 0 HO_3.out (x4_1:Int) (od) (od);have HP12:=Kd.R_putg HO_3.out (x4_1:Int) t753)|((with_reducible refine gate_store (t:=3) (p:=23) rfl ?_);refine store_event (t:=3) (p:=23) (v:=?vo_w13) (w1:=(wr.setCell ⟨go10,(x4_1:Int).toNat,none⟩ (.int .i64 t753))) ?hg ?ho ?hn ?hr ?_;(case ho=>rfl);(case hg=>rfl);(case hn=>rfl);(case hr=>first|(go_simp;done)|(go_simp;rfl));intro w13 hw;have hg:wr.grownBy w13 (some go10):=(by rw [hw];exact HP12.2);have hp_:Kd.R (Kd.int .i64) 3 w13 w.heap.size (fun _=>True) (.slice (some ⟨go10,0,none⟩) x3_1.length co11) y754:=(by rw [hw,Ny754.out];exact HP12.1);clear HP12;replace HO_3:=am (hp_);replace HB:=am ((by rw [hw];exact below_set (HB.out) GB10.out:Below w.heap.size w w13));clear hg hw hp_));go_roundg k1;case measure=>have:=HK1.out;omega
   case rel=>exact ⟨(y754),(wrap64 (x4_1 + 1)),rv,H',⟨by have:=HK1.out;omega⟩,(ra HO_3.out),bh HB⟩
def spec_KindOf.j0:Nat→Int→Int→Bool→Option (Int)
 | 0,_,_,_=>none
 | k + 1,x3,x4,x19=>if x19=true then (some 0) else (if x3=1 then (if x4=1 then (some 1) else (some 2)) else (some 2))
def spec_KindOf.f (k:Nat) (a0:Int):Option (Int):=(spec_l01In.f a0 0 15).bind fun t755=>(if t755=true then (if (Int.tmod (wrap64 (Int.tdiv a0 4)) 2)=0 then (spec_KindOf.j0 k (Int.tmod (wrap64 (Int.tdiv a0 4)) 2) (Int.tmod (Int.tmod a0 4) 2) ((Int.tmod (Int.tmod a0 4) 2) == 0)) else (spec_KindOf.j0 k (Int.tmod (wrap64 (Int.tdiv a0 4)) 2) (Int.tmod (Int.tmod a0 4) 2) false)) else (some (-1)))
theorem spec_KindOf.calls (k:Nat) (a0:Int) (r:Int) (w:World) (h:spec_KindOf.f k a0=some r) :
  Calls Tryz.prog 103 #[.int .i64 a0] w fun e w'=>e=.returned (.int .i64 r)∧Drawn0 w w':=by
 have H:=h;clear h;unfold spec_KindOf.f at H;replace H:=bnd H;obtain ⟨t755,A2,H⟩:=H;replace H:=ifb H;rcases H with ⟨rfl,H⟩ | ⟨rfl,H⟩;rotate_left
 ·obtain rfl:=sj H;go_enter Tryz.func103,Tryz.ntmps103;go_wp2_with (first|((with_reducible refine gc 23 ?_);refine gD (some 6) Tryz.func23 _ (spec_l01In.calls _ _ _ _ _ A2.out) ?_;intro nd));go_ret;exact ⟨rv,dr⟩
 have HC4:=am H;clear H;go_enter Tryz.func103,Tryz.ntmps103;go_upto_region 5 with (first|((with_reducible refine gc 23 ?_);refine gD (some 6) Tryz.func23 _ (spec_l01In.calls _ _ _ _ _ A2.out) ?_;intro nd))
 (try simp only [Act.put,List.setIfInBounds_toArray,List.set_cons_zero,List.set_cons_succ])
 go_cut [19] (fun v19 wc=>∃ (kq:Nat) (x19_3:Bool),v19=.bool x19_3∧Aside0 (spec_KindOf.j0 kq (Int.tmod (wrap64 (Int.tdiv a0 4)) 2) (Int.tmod (Int.tmod a0 4) 2) x19_3=some r)∧Aside0 (kq≤k)∧Drawn0 w wc)
 case first =>
  have H:=HC4.out;clear HC4;replace H:=ife H;rcases H with ⟨-,c5b0,c5b1,H⟩ | ⟨c5,c5b0,c5b1,H⟩
  ·(first | rw [c5b0]|(simp only [i64_w,i32_w];rw [c5b0]) | skip)
   have H':=am H;clear H;go_wp2;go_meet;case rel=>exact ⟨_,(((Int.tmod (Int.tmod a0 4) 2) == 0)),rv,H',om,dr⟩
  ·(first | rw [c5b0]|(simp only [i64_w,i32_w];rw [c5b0]) | skip)
   have H':=am H;clear H;go_wp2;go_meet;case rel=>exact ⟨_,(false),rv,H',om,dr⟩
 case rest =>
  clear HC4;obtain ⟨kq,x19_3,rfl,HA,HJ3,⟨mc3,rfl⟩⟩:=hcut;cases kq with
  | zero=>exact absurd HA.out (by simp [spec_KindOf.j0])
  | succ kj3 =>
   have H:=HA.out;clear HA;simp only [spec_KindOf.j0] at H;replace H:=ifb H;rcases H with ⟨rfl,H⟩ | ⟨rfl,H⟩
   ·obtain rfl:=sj H;go_wp2;go_ret;exact ⟨rv,dr⟩
   ·replace H:=ife H;rcases H with ⟨-,c7b0,c7b1,H⟩ | ⟨c7,c7b0,c7b1,H⟩;rotate_left
    ·obtain rfl:=sj H;go_wp2;go_ret;exact ⟨rv,dr⟩
    by_cases c8:(Int.tmod (Int.tmod a0 4) 2)=1
    ·rw [if_pos c8] at H;obtain ⟨c8b0,c8b1⟩:=eqt c8;(try (have c8b0n:=c8b0;simp only [tmod42] at c8b0n))
     (try (have c8b1n:=c8b1;simp only [tmod42] at c8b1n))
     clear c8;obtain rfl:=sj H;go_wp2;go_ret;exact ⟨rv,dr⟩
    ·rw [if_neg c8] at H;obtain ⟨c8b0,c8b1⟩:=eqf c8;(try (have c8b0n:=c8b0;simp only [tmod42] at c8b0n))
     (try (have c8b1n:=c8b1;simp only [tmod42] at c8b1n))
     obtain rfl:=sj H;go_wp2;go_ret;exact ⟨rv,dr⟩
def spec_l08Pick.f (a0:Int) (a1:Int) (a2:Int) (a3:Int):Option (Int):=if a0=0 then (some a1) else (if a0=1 then (some a2) else (some a3))
theorem spec_l08Pick.calls (a0:Int) (a1:Int) (a2:Int) (a3:Int) (r:Int) (w:World) (h:spec_l08Pick.f a0 a1 a2 a3=some r) :
  Calls Tryz.prog 104 #[.int .i64 a0,.int .i64 a1,.int .i64 a2,.int .i64 a3] w fun e w'=>e=.returned (.int .i64 r)∧Drawn0 w w':=by
 have H:=h;clear h;unfold spec_l08Pick.f at H;replace H:=ife H;rcases H with ⟨-,c5b0,c5b1,H⟩ | ⟨c5,c5b0,c5b1,H⟩
 ·obtain rfl:=sj H;go_enter Tryz.func104,Tryz.ntmps104;go_wp2;go_ret;exact ⟨rv,dr⟩
 ·replace H:=ife H;rcases H with ⟨-,c6b0,c6b1,H⟩ | ⟨c6,c6b0,c6b1,H⟩
  ·obtain rfl:=sj H;go_enter Tryz.func104,Tryz.ntmps104;go_wp2;go_ret;exact ⟨rv,dr⟩
  ·obtain rfl:=sj H;go_enter Tryz.func104,Tryz.ntmps104;go_wp2;go_ret;exact ⟨rv,dr⟩
mutual
def spec_ScaleOf.j0:Nat→Int→Int→Bool→Option (Int)
 | 0,_,_,_=>none
 | k + 1,x0,x5,x16=>if x16=true then (some 0) else (if (Int.tmod x0 6)=0 then ((spec_l08Pick.f x5 10 16 13).bind fun t758=>(spec_ScaleOf.j1 k x0 t758)) else (if (Int.tmod x0 6)=1 then ((spec_l08Pick.f x5 11 18 14).bind fun t759=>(spec_ScaleOf.j1 k x0 t759)) else (if (Int.tmod x0 6)=2 then ((spec_l08Pick.f x5 13 20 16).bind fun t760=>(spec_ScaleOf.j1 k x0 t760)) else (if (Int.tmod x0 6)=3 then ((spec_l08Pick.f x5 14 23 18).bind fun t761=>(spec_ScaleOf.j1 k x0 t761)) else (if (Int.tmod x0 6)=4 then ((spec_l08Pick.f x5 16 25 20).bind fun t762=>(spec_ScaleOf.j1 k x0 t762)) else (if (Int.tmod x0 6)=5 then ((spec_l08Pick.f x5 18 29 23).bind fun t763=>(spec_ScaleOf.j1 k x0 t763)) else (spec_ScaleOf.j1 k x0 0)))))))
def spec_ScaleOf.j1:Nat→Int→Int→Option (Int)
 | 0,_,_=>none
 | k + 1,x0,x6=>spec_ScaleOf.l0 k x0 x6 0
def spec_ScaleOf.l0:Nat→Int→Int→Int→Option (Int)
 | 0,_,_,_=>none
 | k + 1,x0,x6,x7=>if x7 < (wrap64 (Int.tdiv x0 6)) then (spec_ScaleOf.l0 k x0 (wrap64 (2 * x6)) (wrap64 (x7 + 1))) else (some x6)
end
def spec_ScaleOf.f (k:Nat) (a0:Int) (a1:Int):Option (Int):=(spec_KindOf.f k a1).bind fun t756=>((spec_l01In.f a0 0 40).bind fun t757=>(if t757=true then (spec_ScaleOf.j0 k a0 t756 (decide (t756 < 0))) else (spec_ScaleOf.j0 k a0 t756 true)))
theorem spec_ScaleOf.calls (k:Nat) (a0:Int) (a1:Int) (r:Int) (w:World) (h:spec_ScaleOf.f k a0 a1=some r) :
  Calls Tryz.prog 94 #[.int .i64 a0,.int .i64 a1] w fun e w'=>e=.returned (.int .i64 r)∧Drawn0 w w':=by
 have H:=h;clear h;unfold spec_ScaleOf.f at H;replace H:=bnd H;obtain ⟨t756,A3,H⟩:=H;have HC4:=am H;clear H;go_enter Tryz.func94,Tryz.ntmps94;go_upto_region 2 with (first|((with_reducible refine gc 103 ?_);refine gD (some 9) Tryz.func103 _ (spec_KindOf.calls k _ _ _ A3.out) ?_;intro nd))
 (try simp only [Act.put,List.setIfInBounds_toArray,List.set_cons_zero,List.set_cons_succ])
 go_cut [16] (fun v16 wc=>∃ (kq:Nat) (x16_3:Bool),v16=.bool x16_3∧Aside0 (spec_ScaleOf.j0 kq a0 t756 x16_3=some r)∧Aside0 (kq≤k)∧Drawn0 w wc)
 case first =>
  have H:=HC4.out;clear HC4;replace H:=bnd H;obtain ⟨t757,A5,H⟩:=H;replace H:=ifb H;rcases H with ⟨rfl,H⟩ | ⟨rfl,H⟩
  ·have H':=am H;clear H;go_wp2_with (first|((with_reducible refine gc 23 ?_);refine gD (some 11) Tryz.func23 _ (spec_l01In.calls _ _ _ _ _ A5.out) ?_;intro nd));go_meet;case rel=>exact ⟨_,(decide (t756 < 0)),rv,H',om,dr⟩
  ·have H':=am H;clear H;go_wp2_with (first|((with_reducible refine gc 23 ?_);refine gD (some 11) Tryz.func23 _ (spec_l01In.calls _ _ _ _ _ A5.out) ?_;intro nd));go_meet;case rel=>exact ⟨_,(true),rv,H',om,dr⟩
 case rest =>
  clear HC4;obtain ⟨kq,x16_3,rfl,HA,HJ3,⟨mc3,rfl⟩⟩:=hcut;cases kq with
  | zero=>exact absurd HA.out (by simp [spec_ScaleOf.j0])
  | succ kj3 =>
   have H:=HA.out;clear HA;simp only [spec_ScaleOf.j0] at H;replace H:=ifb H;rcases H with ⟨rfl,H⟩ | ⟨rfl,H⟩
   ·obtain rfl:=sj H;go_wp2;go_ret;exact ⟨rv,dr⟩
   ·have HC8:=am H;clear H;go_upto_block 0 with (fail)
    go_cut [6] (fun v6 wc=>∃ (kq:Nat) (x6_7:Int),v6=.int .i64 x6_7∧Aside0 (spec_ScaleOf.j1 kq a0 x6_7=some r)∧Aside0 (kq≤kj3)∧Drawn0 w wc)
    case first =>
     have H:=HC8.out;clear HC8;replace H:=ife H;rcases H with ⟨-,c9b0,c9b1,H⟩ | ⟨c9,c9b0,c9b1,H⟩
     ·(first | rw [c9b0]|(simp only [i64_w,i32_w];rw [c9b0]) | skip)
      replace H:=bnd H;obtain ⟨t758,A10,H⟩:=H;have H':=am H;clear H;go_wp2_with (first|((with_reducible refine gc 104 ?_);refine gD (some 22) Tryz.func104 _ (spec_l08Pick.calls _ _ _ _ _ _ A10.out) ?_;intro nd));go_meet;case rel=>exact ⟨_,(t758),rv,H',(om1 HJ3.out),dr⟩
     ·(first | rw [c9b0]|(simp only [i64_w,i32_w];rw [c9b0]) | skip)
      replace H:=ife H;rcases H with ⟨-,c11b0,c11b1,H⟩ | ⟨c11,c11b0,c11b1,H⟩
      ·replace H:=bnd H;obtain ⟨t759,A12,H⟩:=H;have H':=am H;clear H;go_wp2_with (first|((with_reducible refine gc 104 ?_);refine gD (some 26) Tryz.func104 _ (spec_l08Pick.calls _ _ _ _ _ _ A12.out) ?_;intro nd));go_meet;case rel=>exact ⟨_,(t759),rv,H',(om1 HJ3.out),dr⟩
      ·replace H:=ife H;rcases H with ⟨-,c13b0,c13b1,H⟩ | ⟨c13,c13b0,c13b1,H⟩
       ·replace H:=bnd H;obtain ⟨t760,A14,H⟩:=H;have H':=am H;clear H;go_wp2_with (first|((with_reducible refine gc 104 ?_);refine gD (some 30) Tryz.func104 _ (spec_l08Pick.calls _ _ _ _ _ _ A14.out) ?_;intro nd));go_meet;case rel=>exact ⟨_,(t760),rv,H',(om1 HJ3.out),dr⟩
       ·replace H:=ife H;rcases H with ⟨-,c15b0,c15b1,H⟩ | ⟨c15,c15b0,c15b1,H⟩
        ·replace H:=bnd H;obtain ⟨t761,A16,H⟩:=H;have H':=am H;clear H;go_wp2_with (first|((with_reducible refine gc 104 ?_);refine gD (some 34) Tryz.func104 _ (spec_l08Pick.calls _ _ _ _ _ _ A16.out) ?_;intro nd));go_meet;case rel=>exact ⟨_,(t761),rv,H',(om1 HJ3.out),dr⟩
        ·replace H:=ife H;rcases H with ⟨-,c17b0,c17b1,H⟩ | ⟨c17,c17b0,c17b1,H⟩
         ·replace H:=bnd H;obtain ⟨t762,A18,H⟩:=H;have H':=am H;clear H;go_wp2_with (first|((with_reducible refine gc 104 ?_);refine gD (some 38) Tryz.func104 _ (spec_l08Pick.calls _ _ _ _ _ _ A18.out) ?_;intro nd));go_meet;case rel=>exact ⟨_,(t762),rv,H',(om1 HJ3.out),dr⟩
         ·replace H:=ife H;rcases H with ⟨-,c19b0,c19b1,H⟩ | ⟨c19,c19b0,c19b1,H⟩
          ·replace H:=bnd H;obtain ⟨t763,A20,H⟩:=H;have H':=am H;clear H;go_wp2_with (first|((with_reducible refine gc 104 ?_);refine gD (some 42) Tryz.func104 _ (spec_l08Pick.calls _ _ _ _ _ _ A20.out) ?_;intro nd));go_meet;case rel=>exact ⟨_,(t763),rv,H',(om1 HJ3.out),dr⟩
          ·have H':=am H;clear H;go_wp2;go_meet;case rel=>exact ⟨_,(0),rv,H',(om1 HJ3.out),dr⟩
    case rest =>
     clear HC8;obtain ⟨kq,x6_7,rfl,HA,HJ7,⟨mc7,rfl⟩⟩:=hcut;cases kq with
     | zero=>exact absurd HA.out (by simp [spec_ScaleOf.j1])
     | succ kj7 =>
      have H:=HA.out;clear HA;simp only [spec_ScaleOf.j1] at H;have H':=am H;clear H;go_wp2;go_loopg [6,7] kj7 (fun kq v6 v7 w'=>∃ (x6_3:Int) (x7_3:Int),v6=.int .i64 x6_3∧v7=.int .i64 x7_3∧Aside0 (spec_ScaleOf.l0 kq a0 x6_3 x7_3=some r)∧Aside0 (kq≤kj7)∧Drawn0 w w')
      case atStart=>exact ⟨(x6_7),(0),rv,rv,H',⟨Nat.le_refl _⟩,dr⟩
      case round =>
       clear H';obtain ⟨x6_3,x7_3,rfl,rfl,HA,HK3,⟨m3,rfl⟩⟩:=hrel;cases gk with
       | zero=>exact absurd HA.out (by simp [spec_ScaleOf.l0])
       | succ k3 =>
        have H:=HA.out;clear HA;simp only [spec_ScaleOf.l0] at H;replace H:=ifd H;rcases H with ⟨c21b0,H⟩ | ⟨c21b0,H⟩
        ·have H':=am H;clear H;go_wp2;go_roundg k3;case measure=>have:=HJ3.out;have:=HJ7.out;have:=HK3.out;omega
         case rel=>exact ⟨(wrap64 (2 * x6_3)),(wrap64 (x7_3 + 1)),rv,rv,H',⟨by have:=HJ3.out;have:=HJ7.out;have:=HK3.out;omega⟩,dr⟩
        ·obtain rfl:=sj H;go_wp2;go_ret;exact ⟨rv,dr⟩
def spec_SmallBack.f (k:Nat) (a0:Int) (a1:Int) (a2:Int):Option (Int):=(spec_l01In.f a0 (-5000) 5000).bind fun t764=>(if t764=true then ((spec_ScaleOf.f k a1 a2).bind fun t765=>(some (wrap64 (a0 * t765)))) else (some 0))
theorem spec_SmallBack.calls (k:Nat) (a0:Int) (a1:Int) (a2:Int) (r:Int) (w:World) (h:spec_SmallBack.f k a0 a1 a2=some r) :
  Calls Tryz.prog 74 #[.int .i64 a0,.int .i64 a1,.int .i64 a2] w fun e w'=>e=.returned (.int .i64 r)∧Drawn0 w w':=by
 have H:=h;clear h;unfold spec_SmallBack.f at H;replace H:=bnd H;obtain ⟨t764,A4,H⟩:=H;replace H:=ifb H;rcases H with ⟨rfl,H⟩ | ⟨rfl,H⟩
 ·replace H:=bnd H;obtain ⟨t765,A6,H⟩:=H;obtain rfl:=sj H;go_enter Tryz.func74,Tryz.ntmps74;go_wp2_with (first|((with_reducible refine gc 23 ?_);refine gD (some 8) Tryz.func23 _ (spec_l01In.calls _ _ _ _ _ A4.out) ?_;intro nd)|((with_reducible refine gc 94 ?_);refine gD (some 13) Tryz.func94 _ (spec_ScaleOf.calls k _ _ _ _ A6.out) ?_;intro nd));go_ret;exact ⟨rv,dr⟩
 ·obtain rfl:=sj H;go_enter Tryz.func74,Tryz.ntmps74;go_wp2_with (first|((with_reducible refine gc 23 ?_);refine gD (some 8) Tryz.func23 _ (spec_l01In.calls _ _ _ _ _ A4.out) ?_;intro nd));go_ret;exact ⟨rv,dr⟩
def spec_l09Flip.l0:Nat→List Int→List Int→Int→Option (List Int)
 | 0,_,_,_=>none
 | k + 1,x0,x3,x4=>if x4 < 16 then (if 0≤x4 then (if x4 < (x0.length:Int) then (if 0≤(wrap64 ((wrap64 ((Int.tmod x4 4) * 4)) + (wrap64 (Int.tdiv x4 4)))) then (if (wrap64 ((wrap64 ((Int.tmod x4 4) * 4)) + (wrap64 (Int.tdiv x4 4)))) < (x3.length:Int) then (spec_l09Flip.l0 k x0 (x3.set ((wrap64 ((wrap64 ((Int.tmod x4 4) * 4)) + (wrap64 (Int.tdiv x4 4)))):Int).toNat (rd x0 x4)) (wrap64 (x4 + 1))) else (none)) else (none)) else (none)) else (none)) else (some x3)
def spec_l09Flip.f (k:Nat) (l0:List Int):Option (List Int):=if 16≤35184372088832 then (spec_l09Flip.l0 k l0 (List.replicate 16 0) 0) else (none)
theorem spec_l09Flip.calls (k:Nat) (A0:Option Addr) (c0:Nat) (l0:List Int) (r:List Int) (w:World) (hr0:Kd.C (Kd.int .i64) w A0 l0.length l0) (hc0:l0.length≤c0) (h:spec_l09Flip.f k l0=some r) :
  Calls Tryz.prog 95 #[.slice A0 l0.length c0] w fun e w'=>∃ v0_:Value,e=.returned (v0_)∧Kd.R (Kd.int .i64) 3 w' w.heap.size (fun _=>True) v0_ r∧Below w.heap.size w w':=by
 have HR0:=am hr0;have HC0:=am hc0;clear hr0 hc0;have HB:=am (Below.refl w.heap.size w);have H:=h;clear h;unfold spec_l09Flip.f at H;by_cases c2:16≤35184372088832;rotate_left
 ·rw [if_neg c2] at H;cases H
 rw [if_pos c2] at H;have c2b0:=eq_true c2;have c2b1:=decide_eq_true c2;clear c2;obtain ⟨y766,hy766⟩:∃ y_:List Int,y_=(List.replicate 16 0):=⟨_,rfl⟩
 replace H:(spec_l09Flip.l0 k l0 y766 0)=some r:=by subst hy766;exact H
 have Ny766:=am hy766;clear hy766;have H':=am H;clear H;go_enter Tryz.func95,Tryz.ntmps95;go_wp2_with (first|((with_reducible refine gd 5 ?_);refine Kd.R_make (Kd.int .i64) _ 3 rfl (N:=5) rfl 33 _ _ rfl 16 rfl rfl Tryz.underlying33 (.int .i64 0) 8 info3 rfl (by decide) (by omega) 0 (ok:=fun _=>True) (okp:=fun _=>True) rfl (fun _ hk=>hk) trivial (by omega) (by omega) (Below.refl _ _) (Nat.le_refl _) ?_;intro v767 w3 ho4 hb hg_ hnew_;clear hg_ hnew_;(first | rw [← Ny766.out] at ho4|(simp only [Int.reduceToNat] at ho4;rw [← Ny766.out] at ho4));have HO768:=am (Kd.R_lower ho4 (below_size (bo HB)));replace HB:=bs HB hb;clear hb ho4));go_loopg [4] k (fun kq v4 w'=>∃ (x3_1:List Int) (x4_1:Int),v4=.int .i64 x4_1∧Aside0 (spec_l09Flip.l0 kq l0 x3_1 x4_1=some r)∧Aside0 (kq≤k)∧Aside0 (Kd.R (Kd.int .i64) 3 w' w.heap.size (fun _=>True) v767 x3_1)∧Aside0 (Below w.heap.size w w'))
 case atStart=>exact ⟨(y766),(0),rv,H',⟨Nat.le_refl _⟩,(ra HO768.out),bh HB⟩
 case round =>
  clear H';obtain ⟨x3_1,x4_1,rfl,HA,HK1,HO_3,HB⟩:=hrel;cases gk with
  | zero=>exact absurd HA.out (by simp [spec_l09Flip.l0])
  | succ k1 =>
   have H:=HA.out;clear HA;simp only [spec_l09Flip.l0] at H;replace H:=ifd H;rcases H with ⟨c5b0,H⟩ | ⟨c5b0,H⟩;rotate_left
   ·obtain rfl:=sj H;go_wp2;go_ret;exact ⟨_,re,ro HO_3.out,bo HB⟩
   replace H:=ifN H;obtain ⟨c6b0,H⟩:=H;replace H:=ifN H;obtain ⟨c7b0,H⟩:=H;obtain ⟨ji8,hji8⟩:∃ j_:Int,(wrap64 ((wrap64 ((Int.tmod x4_1 4) * 4)) + (wrap64 (Int.tdiv x4_1 4))))=j_:=⟨_,rfl⟩
   replace H:(if 0≤(ji8) then (if (ji8) < (x3_1.length:Int) then (spec_l09Flip.l0 k1 l0 (x3_1.set ((ji8):Int).toNat (rd l0 x4_1)) (wrap64 (x4_1 + 1))) else (none)) else (none))=some r:=by first|(rw [hji8] at H;exact H)|(simp only [hji8] at H ⊢;exact H)
   have hji8w:(IntKind.i64.wrap ((wrap64 ((Int.tmod x4_1 4) * 4)) + (wrap64 (Int.tdiv x4_1 4))))=ji8:=(i64_w _).trans hji8;replace H:=ifN H;obtain ⟨c9b0,H⟩:=H;replace H:=ifN H;obtain ⟨c10b0,H⟩:=H;obtain ⟨y770,hy770⟩:∃ y_:List Int,y_=(x3_1.set ((ji8):Int).toNat (rd l0 x4_1)):=⟨_,rfl⟩
   replace H:(spec_l09Flip.l0 k1 l0 y770 (wrap64 (x4_1 + 1)))=some r:=by subst hy770;exact H
   have Ny770:=am hy770;clear hy770;have H':=am H;clear H;have p769:0≤(x4_1:Int):=od;have q769:x4_1 < (l0.length:Int):=od;obtain ⟨ad769,e769,hx769_0⟩:=Kd.at_int HR0.out x4_1 p769 q769;cases e769;replace hx769_0:=(HB.out.cell (World.block_lt_of_cell? w _ hx769_0)).trans hx769_0;replace p769:=eq_true p769;replace q769:=eq_true q769;have p11:0≤((ji8):Int):=od;have q11:((ji8):Int) < ((x3_1.length:Int):Int):=od;obtain ⟨go11,co11,eo11,gb11,gl11,cl11,HG11⟩:=Kd.R_form HO_3.out (by omega);(first | cases eo11|(injection eo11 with ea_ en_ ec_;(first | subst ea_|(injection ea_ with ea_;subst ea_));subst ec_;clear en_))
   have GB11:=am gb11;have GG11:=am HG11;clear gb11 gl11 HG11;obtain ⟨hx11_0,hf11_0⟩:=Kd.R_celln 0 HO_3.out ((ji8):Int) p11 q11;replace p11:=eq_true p11;replace q11:=eq_true q11;have HP12:=Kd.R_putg HO_3.out ((ji8):Int) (rd l0 x4_1);go_wp2_with (first|((with_reducible refine gate_store (t:=3) (p:=21) rfl ?_);refine store_event (t:=3) (p:=21) (v:=?vo_w13) (w1:=(wr.setCell ⟨go11,((ji8):Int).toNat,none⟩ (.int .i64 (rd l0 x4_1)))) ?hg ?ho ?hn ?hr ?_;(case ho=>rfl);(case hg=>rfl);(case hn=>rfl);(case hr=>first|(go_simp;done)|(go_simp;rfl));intro w13 hw;have hg:wr.grownBy w13 (some go11):=(by rw [hw];exact HP12.2);have hp_:Kd.R (Kd.int .i64) 3 w13 w.heap.size (fun _=>True) (.slice (some ⟨go11,0,none⟩) x3_1.length co11) y770:=(by rw [hw,Ny770.out];exact HP12.1);clear HP12;replace HO_3:=am (hp_);replace HB:=am ((by rw [hw];exact below_set (HB.out) GB11.out:Below w.heap.size w w13));clear hg hw hp_));go_roundg k1;case measure=>have:=HK1.out;omega
   case rel=>exact ⟨(y770),(wrap64 (x4_1 + 1)),rv,H',⟨by have:=HK1.out;omega⟩,(ra HO_3.out),bh HB⟩
def spec_l09Backs.l0:Nat→List Int→List Int→Int→Option (List Int)
 | 0,_,_,_=>none
 | k + 1,x0,x3,x4=>if x4 < 4 then (if 0≤(wrap64 (4 * x4)) then (if (wrap64 (4 * x4)) < (x0.length:Int) then (if 0≤(wrap64 ((wrap64 (4 * x4)) + 1)) then (if (wrap64 ((wrap64 (4 * x4)) + 1)) < (x0.length:Int) then (if 0≤(wrap64 ((wrap64 (4 * x4)) + 2)) then (if (wrap64 ((wrap64 (4 * x4)) + 2)) < (x0.length:Int) then (if 0≤(wrap64 ((wrap64 (4 * x4)) + 3)) then (if (wrap64 ((wrap64 (4 * x4)) + 3)) < (x0.length:Int) then ((spec_l09Down.f (rd x0 (wrap64 ((wrap64 (4 * x4)) + 1))) 2).bind fun t778=>((spec_l09Down.f (rd x0 (wrap64 ((wrap64 (4 * x4)) + 3))) 2).bind fun t779=>((some (([wrap64 ((wrap64 ((rd x0 (wrap64 (4 * x4))) + (rd x0 (wrap64 ((wrap64 (4 * x4)) + 2))))) + (wrap64 ((rd x0 (wrap64 ((wrap64 (4 * x4)) + 1))) + t779))),wrap64 ((wrap64 ((rd x0 (wrap64 (4 * x4))) - (rd x0 (wrap64 ((wrap64 (4 * x4)) + 2))))) + (wrap64 (t778 - (rd x0 (wrap64 ((wrap64 (4 * x4)) + 3)))))),wrap64 ((wrap64 ((rd x0 (wrap64 (4 * x4))) - (rd x0 (wrap64 ((wrap64 (4 * x4)) + 2))))) - (wrap64 (t778 - (rd x0 (wrap64 ((wrap64 (4 * x4)) + 3)))))),wrap64 ((wrap64 ((rd x0 (wrap64 (4 * x4))) + (rd x0 (wrap64 ((wrap64 (4 * x4)) + 2))))) - (wrap64 ((rd x0 (wrap64 ((wrap64 (4 * x4)) + 1))) + t779)))]:List Int):List Int)).bind fun y780=>(if x3.length + y780.length < 17592186044416 then (spec_l09Backs.l0 k x0 (x3 ++ y780) (wrap64 (x4 + 1))) else (none))))) else (none)) else (none)) else (none)) else (none)) else (none)) else (none)) else (none)) else (none)) else (some x3)
def spec_l09Backs.f (k:Nat) (l0:List Int):Option (List Int):=spec_l09Backs.l0 k l0 (([]:List Int)) 0
theorem spec_l09Backs.calls (k:Nat) (A0:Option Addr) (c0:Nat) (l0:List Int) (r:List Int) (w:World) (hr0:Kd.C (Kd.int .i64) w A0 l0.length l0) (hc0:l0.length≤c0) (h:spec_l09Backs.f k l0=some r) :
  Calls Tryz.prog 96 #[.slice A0 l0.length c0] w fun e w'=>∃ v0_:Value,e=.returned (v0_)∧Kd.R (Kd.int .i64) 3 w' w.heap.size (fun _=>True) v0_ r∧Below w.heap.size w w':=by
 have HR0:=am hr0;have HC0:=am hc0;clear hr0 hc0;have HB:=am (Below.refl w.heap.size w);have H:=h;clear h;unfold spec_l09Backs.f at H;obtain ⟨y771,hy771⟩:∃ y_:List Int,y_=(([]:List Int)):=⟨_,rfl⟩
 replace H:(spec_l09Backs.l0 k l0 y771 0)=some r:=by subst hy771;exact H
 have Ny771:=am hy771;clear hy771;have H':=am H;clear H;go_enter Tryz.func96,Tryz.ntmps96;go_wp2_with (first|((with_reducible refine gd 13 ?_);refine Kd.R_lit (Kd.int .i64) _ 3 ?hg (N:=13) ?hd (xs:=([]:List Int)) (inner:=[]) (ok:=fun _=>True) (okp:=fun _=>True) ?hr ?hp (fun _ hk=>hk) trivial (Below.refl _ _) (Nat.le_refl _) (by simp) ?_;(case hd=>rfl);(case hg=>rfl);(case hr=>first|(go_simp;done)|(go_simp;rfl));(case hp=>exact (Reps.none _ _));intro v772 w2 ho3 hb hg_ hnew_;clear hg_ hnew_;(first | rw [← Ny771.out] at ho3|(simp only [Int.reduceToNat] at ho3;rw [← Ny771.out] at ho3));have HO773:=am (Kd.R_lower ho3 (below_size (bo HB)));replace HB:=bs HB hb;clear hb ho3));go_loopg [3,4] k (fun kq v3 v4 w'=>∃ (x3_1:List Int) (x4_1:Int),v4=.int .i64 x4_1∧Aside0 (spec_l09Backs.l0 kq l0 x3_1 x4_1=some r)∧Aside0 (kq≤k)∧Aside0 (Kd.R (Kd.int .i64) 3 w' w.heap.size (fun _=>True) v3 x3_1)∧Aside0 (Below w.heap.size w w'))
 case atStart=>exact ⟨(y771),(0),rv,H',⟨Nat.le_refl _⟩,(ra HO773.out),bh HB⟩
 case round =>
  clear H';obtain ⟨x3_1,x4_1,rfl,HA,HK1,HO_3,HB⟩:=hrel;cases gk with
  | zero=>exact absurd HA.out (by simp [spec_l09Backs.l0])
  | succ k1 =>
   have H:=HA.out;clear HA;simp only [spec_l09Backs.l0] at H;replace H:=ifd H;rcases H with ⟨c4b0,H⟩ | ⟨c4b0,H⟩;rotate_left
   ·obtain rfl:=sj H;go_wp2;go_ret;exact ⟨_,re,ro HO_3.out,bo HB⟩
   obtain ⟨ji5,hji5⟩:∃ j_:Int,(wrap64 (4 * x4_1))=j_:=⟨_,rfl⟩
   replace H:(if 0≤(ji5) then (if (ji5) < (l0.length:Int) then (if 0≤(wrap64 ((ji5) + 1)) then (if (wrap64 ((ji5) + 1)) < (l0.length:Int) then (if 0≤(wrap64 ((ji5) + 2)) then (if (wrap64 ((ji5) + 2)) < (l0.length:Int) then (if 0≤(wrap64 ((ji5) + 3)) then (if (wrap64 ((ji5) + 3)) < (l0.length:Int) then ((spec_l09Down.f (rd l0 (wrap64 ((ji5) + 1))) 2).bind fun t778=>((spec_l09Down.f (rd l0 (wrap64 ((ji5) + 3))) 2).bind fun t779=>((some (([wrap64 ((wrap64 ((rd l0 (ji5)) + (rd l0 (wrap64 ((ji5) + 2))))) + (wrap64 ((rd l0 (wrap64 ((ji5) + 1))) + t779))),wrap64 ((wrap64 ((rd l0 (ji5)) - (rd l0 (wrap64 ((ji5) + 2))))) + (wrap64 (t778 - (rd l0 (wrap64 ((ji5) + 3)))))),wrap64 ((wrap64 ((rd l0 (ji5)) - (rd l0 (wrap64 ((ji5) + 2))))) - (wrap64 (t778 - (rd l0 (wrap64 ((ji5) + 3)))))),wrap64 ((wrap64 ((rd l0 (ji5)) + (rd l0 (wrap64 ((ji5) + 2))))) - (wrap64 ((rd l0 (wrap64 ((ji5) + 1))) + t779)))]:List Int):List Int)).bind fun y780=>(if x3_1.length + y780.length < 17592186044416 then (spec_l09Backs.l0 k1 l0 (x3_1 ++ y780) (wrap64 (x4_1 + 1))) else (none))))) else (none)) else (none)) else (none)) else (none)) else (none)) else (none)) else (none)) else (none))=some r:=by first|(rw [hji5] at H;exact H)|(simp only [hji5] at H ⊢;exact H)
   have hji5w:(IntKind.i64.wrap (4 * x4_1))=ji5:=(i64_w _).trans hji5;replace H:=ifN H;obtain ⟨c6b0,H⟩:=H;replace H:=ifN H;obtain ⟨c7b0,H⟩:=H;obtain ⟨ji8,hji8⟩:∃ j_:Int,(wrap64 ((ji5) + 1))=j_:=⟨_,rfl⟩
   replace H:(if 0≤(ji8) then (if (ji8) < (l0.length:Int) then (if 0≤(wrap64 ((ji5) + 2)) then (if (wrap64 ((ji5) + 2)) < (l0.length:Int) then (if 0≤(wrap64 ((ji5) + 3)) then (if (wrap64 ((ji5) + 3)) < (l0.length:Int) then ((spec_l09Down.f (rd l0 (ji8)) 2).bind fun t778=>((spec_l09Down.f (rd l0 (wrap64 ((ji5) + 3))) 2).bind fun t779=>((some (([wrap64 ((wrap64 ((rd l0 (ji5)) + (rd l0 (wrap64 ((ji5) + 2))))) + (wrap64 ((rd l0 (ji8)) + t779))),wrap64 ((wrap64 ((rd l0 (ji5)) - (rd l0 (wrap64 ((ji5) + 2))))) + (wrap64 (t778 - (rd l0 (wrap64 ((ji5) + 3)))))),wrap64 ((wrap64 ((rd l0 (ji5)) - (rd l0 (wrap64 ((ji5) + 2))))) - (wrap64 (t778 - (rd l0 (wrap64 ((ji5) + 3)))))),wrap64 ((wrap64 ((rd l0 (ji5)) + (rd l0 (wrap64 ((ji5) + 2))))) - (wrap64 ((rd l0 (ji8)) + t779)))]:List Int):List Int)).bind fun y780=>(if x3_1.length + y780.length < 17592186044416 then (spec_l09Backs.l0 k1 l0 (x3_1 ++ y780) (wrap64 (x4_1 + 1))) else (none))))) else (none)) else (none)) else (none)) else (none)) else (none)) else (none))=some r:=by first|(rw [hji8] at H;exact H)|(simp only [hji8] at H ⊢;exact H)
   have hji8w:(IntKind.i64.wrap ((ji5) + 1))=ji8:=(i64_w _).trans hji8;replace H:=ifN H;obtain ⟨c9b0,H⟩:=H;replace H:=ifN H;obtain ⟨c10b0,H⟩:=H;obtain ⟨ji11,hji11⟩:∃ j_:Int,(wrap64 ((ji5) + 2))=j_:=⟨_,rfl⟩
   replace H:(if 0≤(ji11) then (if (ji11) < (l0.length:Int) then (if 0≤(wrap64 ((ji5) + 3)) then (if (wrap64 ((ji5) + 3)) < (l0.length:Int) then ((spec_l09Down.f (rd l0 (ji8)) 2).bind fun t778=>((spec_l09Down.f (rd l0 (wrap64 ((ji5) + 3))) 2).bind fun t779=>((some (([wrap64 ((wrap64 ((rd l0 (ji5)) + (rd l0 (ji11)))) + (wrap64 ((rd l0 (ji8)) + t779))),wrap64 ((wrap64 ((rd l0 (ji5)) - (rd l0 (ji11)))) + (wrap64 (t778 - (rd l0 (wrap64 ((ji5) + 3)))))),wrap64 ((wrap64 ((rd l0 (ji5)) - (rd l0 (ji11)))) - (wrap64 (t778 - (rd l0 (wrap64 ((ji5) + 3)))))),wrap64 ((wrap64 ((rd l0 (ji5)) + (rd l0 (ji11)))) - (wrap64 ((rd l0 (ji8)) + t779)))]:List Int):List Int)).bind fun y780=>(if x3_1.length + y780.length < 17592186044416 then (spec_l09Backs.l0 k1 l0 (x3_1 ++ y780) (wrap64 (x4_1 + 1))) else (none))))) else (none)) else (none)) else (none)) else (none))=some r:=by first|(rw [hji11] at H;exact H)|(simp only [hji11] at H ⊢;exact H)
   have hji11w:(IntKind.i64.wrap ((ji5) + 2))=ji11:=(i64_w _).trans hji11;replace H:=ifN H;obtain ⟨c12b0,H⟩:=H;replace H:=ifN H;obtain ⟨c13b0,H⟩:=H;obtain ⟨ji14,hji14⟩:∃ j_:Int,(wrap64 ((ji5) + 3))=j_:=⟨_,rfl⟩
   replace H:(if 0≤(ji14) then (if (ji14) < (l0.length:Int) then ((spec_l09Down.f (rd l0 (ji8)) 2).bind fun t778=>((spec_l09Down.f (rd l0 (ji14)) 2).bind fun t779=>((some (([wrap64 ((wrap64 ((rd l0 (ji5)) + (rd l0 (ji11)))) + (wrap64 ((rd l0 (ji8)) + t779))),wrap64 ((wrap64 ((rd l0 (ji5)) - (rd l0 (ji11)))) + (wrap64 (t778 - (rd l0 (ji14))))),wrap64 ((wrap64 ((rd l0 (ji5)) - (rd l0 (ji11)))) - (wrap64 (t778 - (rd l0 (ji14))))),wrap64 ((wrap64 ((rd l0 (ji5)) + (rd l0 (ji11)))) - (wrap64 ((rd l0 (ji8)) + t779)))]:List Int):List Int)).bind fun y780=>(if x3_1.length + y780.length < 17592186044416 then (spec_l09Backs.l0 k1 l0 (x3_1 ++ y780) (wrap64 (x4_1 + 1))) else (none))))) else (none)) else (none))=some r:=by first|(rw [hji14] at H;exact H)|(simp only [hji14] at H ⊢;exact H)
   have hji14w:(IntKind.i64.wrap ((ji5) + 3))=ji14:=(i64_w _).trans hji14;replace H:=ifN H;obtain ⟨c15b0,H⟩:=H;replace H:=ifN H;obtain ⟨c16b0,H⟩:=H;replace H:=bnd H;obtain ⟨t778,A17,H⟩:=H;replace H:=bnd H;obtain ⟨t779,A18,H⟩:=H;replace H:=yl H;obtain ⟨y780,Ny780,H⟩:=H;replace H:=ifn H;obtain ⟨c19,H⟩:=H;have LMc19:=am c19;clear c19;obtain ⟨y783,hy783⟩:∃ y_:List Int,y_=(x3_1 ++ y780):=⟨_,rfl⟩
   replace H:(spec_l09Backs.l0 k1 l0 y783 (wrap64 (x4_1 + 1)))=some r:=by subst hy783;exact H
   have Ny783:=am hy783;clear hy783;have H':=am H;clear H;have p774:0≤((ji5):Int):=od;have q774:(ji5) < (l0.length:Int):=od;obtain ⟨ad774,e774,hx774_0⟩:=Kd.at_int HR0.out (ji5) p774 q774;cases e774;replace hx774_0:=(HB.out.cell (World.block_lt_of_cell? w _ hx774_0)).trans hx774_0;replace p774:=eq_true p774;replace q774:=eq_true q774;have p775:0≤((ji8):Int):=od;have q775:(ji8) < (l0.length:Int):=od;obtain ⟨ad775,e775,hx775_0⟩:=Kd.at_int HR0.out (ji8) p775 q775;obtain rfl:ad774=ad775:=(by injection e775)
   replace hx775_0:=(HB.out.cell (World.block_lt_of_cell? w _ hx775_0)).trans hx775_0;replace p775:=eq_true p775;replace q775:=eq_true q775;have p776:0≤((ji11):Int):=od;have q776:(ji11) < (l0.length:Int):=od;obtain ⟨ad776,e776,hx776_0⟩:=Kd.at_int HR0.out (ji11) p776 q776;obtain rfl:ad774=ad776:=(by injection e776)
   replace hx776_0:=(HB.out.cell (World.block_lt_of_cell? w _ hx776_0)).trans hx776_0;replace p776:=eq_true p776;replace q776:=eq_true q776;have p777:0≤((ji14):Int):=od;have q777:(ji14) < (l0.length:Int):=od;obtain ⟨ad777,e777,hx777_0⟩:=Kd.at_int HR0.out (ji14) p777 q777;obtain rfl:ad774=ad777:=(by injection e777)
   replace hx777_0:=(HB.out.cell (World.block_lt_of_cell? w _ hx777_0)).trans hx777_0;replace p777:=eq_true p777;replace q777:=eq_true q777;go_wp2_with (first|((with_reducible refine gc 93 ?_);refine gD (some 48) Tryz.func93 _ (spec_l09Down.calls _ _ _ _ A17.out) ?_ (hargs:=(by (try simp only [List.map_toArray,List.map_cons,List.map_nil]);first | done|(simp only [hji8];rfl) | rfl|(simp only [List.length_drop,List.length_take];rfl)));intro nd)|((with_reducible refine gc 93 ?_);refine gD (some 53) Tryz.func93 _ (spec_l09Down.calls _ _ _ _ A18.out) ?_ (hargs:=(by (try simp only [List.map_toArray,List.map_cons,List.map_nil]);first | done|(simp only [hji14];rfl) | rfl|(simp only [List.length_drop,List.length_take];rfl)));intro nd)|((with_reducible refine gd 68 ?_);refine Kd.R_lit (Kd.int .i64) _ 3 ?hg (N:=68) ?hd (xs:=([wrap64 ((wrap64 ((rd l0 (ji5)) + (rd l0 (ji11)))) + (wrap64 ((rd l0 (ji8)) + t779))),wrap64 ((wrap64 ((rd l0 (ji5)) - (rd l0 (ji11)))) + (wrap64 (t778 - (rd l0 (ji14))))),wrap64 ((wrap64 ((rd l0 (ji5)) - (rd l0 (ji11)))) - (wrap64 (t778 - (rd l0 (ji14))))),wrap64 ((wrap64 ((rd l0 (ji5)) + (rd l0 (ji11)))) - (wrap64 ((rd l0 (ji8)) + t779)))]:List Int)) (inner:=[.int .i64 (wrap64 ((wrap64 ((rd l0 (ji5)) + (rd l0 (ji11)))) + (wrap64 ((rd l0 (ji8)) + t779)))),.int .i64 (wrap64 ((wrap64 ((rd l0 (ji5)) - (rd l0 (ji11)))) + (wrap64 (t778 - (rd l0 (ji14)))))),.int .i64 (wrap64 ((wrap64 ((rd l0 (ji5)) - (rd l0 (ji11)))) - (wrap64 (t778 - (rd l0 (ji14)))))),.int .i64 (wrap64 ((wrap64 ((rd l0 (ji5)) + (rd l0 (ji11)))) - (wrap64 ((rd l0 (ji8)) + t779))))]) (ok:=fun _=>True) (okp:=fun _=>True) ?hr ?hp (fun _ hk=>hk) trivial (Below.refl _ _) (Nat.le_refl _) (by simp) ?_;(case hd=>rfl);(case hg=>rfl);(case hr=>first|(go_simp;done)|(go_simp;rfl));(case hp=>exact (Reps.one (show Kd.M (Kd.int .i64) _ _ _ (wrap64 ((wrap64 ((rd l0 (ji5)) + (rd l0 (ji11)))) + (wrap64 ((rd l0 (ji8)) + t779)))) [.int .i64 (wrap64 ((wrap64 ((rd l0 (ji5)) + (rd l0 (ji11)))) + (wrap64 ((rd l0 (ji8)) + t779))))] from rfl) (Reps.one (show Kd.M (Kd.int .i64) _ _ _ (wrap64 ((wrap64 ((rd l0 (ji5)) - (rd l0 (ji11)))) + (wrap64 (t778 - (rd l0 (ji14)))))) [.int .i64 (wrap64 ((wrap64 ((rd l0 (ji5)) - (rd l0 (ji11)))) + (wrap64 (t778 - (rd l0 (ji14))))))] from rfl) (Reps.one (show Kd.M (Kd.int .i64) _ _ _ (wrap64 ((wrap64 ((rd l0 (ji5)) - (rd l0 (ji11)))) - (wrap64 (t778 - (rd l0 (ji14)))))) [.int .i64 (wrap64 ((wrap64 ((rd l0 (ji5)) - (rd l0 (ji11)))) - (wrap64 (t778 - (rd l0 (ji14))))))] from rfl) (Reps.one (show Kd.M (Kd.int .i64) _ _ _ (wrap64 ((wrap64 ((rd l0 (ji5)) + (rd l0 (ji11)))) - (wrap64 ((rd l0 (ji8)) + t779)))) [.int .i64 (wrap64 ((wrap64 ((rd l0 (ji5)) + (rd l0 (ji11)))) - (wrap64 ((rd l0 (ji8)) + t779))))] from rfl) (Reps.none _ _))))));intro v781 w20 ho21 hb hg_ hnew_;clear hg_ hnew_;(first | rw [← Ny780.out] at ho21|(simp only [Int.reduceToNat] at ho21;rw [← Ny780.out] at ho21));have HO782:=am (Kd.R_lower (Kd.R_new' ho21 (Kd.R_lt (ro HO_3.out))) (below_size (bo HB)));replace HO_3:=am (Kd.R_elder' (ro HO_3.out) (Kd.R_base ho21) hb);replace HB:=bs HB hb;clear hb ho21;obtain ⟨Ao23,co23,eo23⟩:=Kd.R_slice HO782.out;subst eo23)|((with_reducible refine gate_builtin (b:=.append) (xs:=#[.tmp 55,.tmp 68]) rfl ?_);at_builtin;refine Kd.R_append_rows (Kd.int .i64) (w0:=w) w.heap.size rfl (.tmp 55) (.tmp 68) 33 3 (.int .i64 0) 8 rfl Tryz.underlying33 info3 rfl (by decide) (by omega) u3 x3_1 y780 _ _ _ (fun k_=>some k_≠(.slice Ao23 y780.length co23:Value).ownBlock) (fun _=>False) rfl rfl ?aO ?aR (fun _ _ h=>h) (fun _ h=>h.elim) ?aF ?aB ?aS ?aL ?_;(case aR=>repeat (first | exact (Kd.R_reads' HO782.out).2.2|(with_reducible refine Kd.C_alloc ?_ _)|(with_reducible refine Kd.C_drewN ?_ _)|(with_reducible refine Kd.C_drew ?_)));(case aB=>exact (bo HB));(case aF=>exact (fun k_ hk=>Kd.fresh' (Kd.R_lt (ro HO782.out)) k_ hk));(case aO=>exact (ro (Kd.R_mono HO_3.out (fun _ hk=>hk.2))));(case aS=>exact (below_size (bo HB)));(case aL=>have:=LMc19.out;omega);intro v784 w22 ho hb hg hat;rw [← Ny783.out] at ho;have HO785:=am (ho);replace HO782:=am (Kd.R_after (ok:=(fun _=>True)) (ro HO782.out) hg hat);replace HB:=am (hb);clear HO_3;clear ho hb hg hat));go_roundg k1;case measure=>have:=HK1.out;omega
   case rel=>exact ⟨(y783),(wrap64 (x4_1 + 1)),rv,H',⟨by have:=HK1.out;omega⟩,(ra (Kd.R_mono HO785.out (fun _ hk=>trivial))),bh HB⟩
def spec_FourBack.l0:Nat→List Int→Int→Option (List Int)
 | 0,_,_=>none
 | k + 1,x3,x4=>if x4 < 16 then (if 0≤x4 then (if x4 < (x3.length:Int) then ((spec_l09Down.f (wrap64 ((rd x3 x4) + 32)) 64).bind fun t803=>(spec_FourBack.l0 k (x3.set (x4:Int).toNat t803) (wrap64 (x4 + 1)))) else (none)) else (none)) else (some x3)
def spec_FourBack.f (k:Nat) (l0:List Int):Option (List Int):=(spec_l09All.f k l0 16 10000000).bind fun t786=>(if t786=true then ((spec_l09Backs.f k l0).bind fun t790=>((spec_l09Flip.f k t790).bind fun t793=>((spec_l09Backs.f k t793).bind fun t796=>((spec_l09Flip.f k t796).bind fun t799=>(spec_FourBack.l0 k t799 0))))) else (some (([]:List Int))))
theorem spec_FourBack.calls (k:Nat) (A0:Option Addr) (c0:Nat) (l0:List Int) (r:List Int) (w:World) (hr0:Kd.C (Kd.int .i64) w A0 l0.length l0) (hc0:l0.length≤c0) (h:spec_FourBack.f k l0=some r) :
  Calls Tryz.prog 75 #[.slice A0 l0.length c0] w fun e w'=>∃ v0_:Value,e=.returned (v0_)∧Kd.R (Kd.int .i64) 3 w' w.heap.size (fun _=>True) v0_ r∧Below w.heap.size w w':=by
 have HR0:=am hr0;have HC0:=am hc0;clear hr0 hc0;have HB:=am (Below.refl w.heap.size w);have H:=h;clear h;unfold spec_FourBack.f at H;replace H:=bnd H;obtain ⟨t786,A2,H⟩:=H;replace H:=ifb H;rcases H with ⟨rfl,H⟩ | ⟨rfl,H⟩;rotate_left
 ·obtain ⟨y787,hy787⟩:∃ y_:List Int,y_=(([]:List Int)):=⟨_,rfl⟩
  replace H:(some y787)=some r:=by subst hy787;exact H
  have Ny787:=am hy787;clear hy787;obtain rfl:=sj H;go_enter Tryz.func75,Tryz.ntmps75;go_wp2_with (first|((with_reducible refine gc 69 ?_);refine gD (some 6) Tryz.func69 _ (spec_l09All.calls k _ _ _ _ _ _ _ (ca (HR0.out)) HC0.out A2.out) ?_;intro nd)|((with_reducible refine gd 8 ?_);refine Kd.R_lit (Kd.int .i64) _ 3 ?hg (N:=8) ?hd (xs:=([]:List Int)) (inner:=[]) (ok:=fun _=>True) (okp:=fun _=>True) ?hr ?hp (fun _ hk=>hk) trivial (Below.refl _ _) (Nat.le_refl _) (by simp) ?_;(case hd=>rfl);(case hg=>rfl);(case hr=>first|(go_simp;done)|(go_simp;rfl));(case hp=>exact (Reps.none _ _));intro v788 w23 ho24 hb hg_ hnew_;clear hg_ hnew_;(first | rw [← Ny787.out] at ho24|(simp only [Int.reduceToNat] at ho24;rw [← Ny787.out] at ho24));have HO789:=am (Kd.R_lower ho24 (below_size (bo HB)));replace HB:=bs HB hb;clear hb ho24));go_ret;exact ⟨_,re,ro HO789.out,bo HB⟩
 replace H:=bnd H;obtain ⟨t790,A4,H⟩:=H;replace H:=bnd H;obtain ⟨t793,A5,H⟩:=H;replace H:=bnd H;obtain ⟨t796,A6,H⟩:=H;replace H:=bnd H;obtain ⟨t799,A7,H⟩:=H;have H':=am H;clear H;go_enter Tryz.func75,Tryz.ntmps75;go_wp2_with (first|((with_reducible refine gc 69 ?_);refine gD (some 6) Tryz.func69 _ (spec_l09All.calls k _ _ _ _ _ _ _ (ca (HR0.out)) HC0.out A2.out) ?_;intro nd)|((with_reducible refine gc 96 ?_);refine gX (some 10) Tryz.func96 _ (spec_l09Backs.calls k _ _ _ _ _ (ca (HR0.out)) HC0.out A4.out) ?_;rintro v791 w8 ⟨ho0,hb⟩;have HO792:=am (Kd.R_lower ho0 (below_size (bo HB)));replace HB:=bs HB hb;(try clear hb);(try clear ho0);obtain ⟨Ao9,co9,eo9⟩:=Kd.R_slice HO792.out;subst eo9)|((with_reducible refine gc 95 ?_);refine gX (some 11) Tryz.func95 _ (spec_l09Flip.calls k _ _ _ _ _ (ca ((Kd.R_reads' HO792.out).2.2)) ((Kd.R_reads' HO792.out).2.1) A5.out) ?_;rintro v794 w10 ⟨ho0,hb⟩;have HO795:=am (Kd.R_lower (Kd.R_new' ho0 (Kd.R_lt (ro HO792.out))) (below_size (bo HB)));replace HO792:=am (Kd.R_elder' (ro HO792.out) (Kd.R_base ho0) hb);replace HB:=bs HB hb;(try clear hb);(try clear ho0);obtain ⟨Ao11,co11,eo11⟩:=Kd.R_slice HO795.out;subst eo11)|((with_reducible refine gc 96 ?_);refine gX (some 12) Tryz.func96 _ (spec_l09Backs.calls k _ _ _ _ _ (ca ((Kd.R_reads' HO795.out).2.2)) ((Kd.R_reads' HO795.out).2.1) A6.out) ?_;rintro v797 w12 ⟨ho0,hb⟩;have HO798:=am (Kd.R_lower (Kd.R_new' (Kd.R_new' ho0 (Kd.R_lt (ro HO792.out))) (Kd.R_lt (ro HO795.out))) (below_size (bo HB)));replace HO792:=am (Kd.R_elder' (ro HO792.out) (Kd.R_base ho0) hb);replace HO795:=am (Kd.R_elder' (ro HO795.out) (Kd.R_base ho0) hb);replace HB:=bs HB hb;(try clear hb);(try clear ho0);obtain ⟨Ao13,co13,eo13⟩:=Kd.R_slice HO798.out;subst eo13)|((with_reducible refine gc 95 ?_);refine gX (some 13) Tryz.func95 _ (spec_l09Flip.calls k _ _ _ _ _ (ca ((Kd.R_reads' HO798.out).2.2)) ((Kd.R_reads' HO798.out).2.1) A7.out) ?_;rintro v800 w14 ⟨ho0,hb⟩;have HO801:=am (Kd.R_lower (Kd.R_new' (Kd.R_new' (Kd.R_new' ho0 (Kd.R_lt (ro HO792.out))) (Kd.R_lt (ro HO795.out))) (Kd.R_lt (ro HO798.out))) (below_size (bo HB)));replace HO792:=am (Kd.R_elder' (ro HO792.out) (Kd.R_base ho0) hb);replace HO795:=am (Kd.R_elder' (ro HO795.out) (Kd.R_base ho0) hb);replace HO798:=am (Kd.R_elder' (ro HO798.out) (Kd.R_base ho0) hb);replace HB:=bs HB hb;(try clear hb);(try clear ho0)));go_loopg [4] k (fun kq v4 w'=>∃ (x3_1:List Int) (x4_1:Int),v4=.int .i64 x4_1∧Aside0 (spec_FourBack.l0 kq x3_1 x4_1=some r)∧Aside0 (kq≤k)∧Aside0 (Kd.R (Kd.int .i64) 3 w' w.heap.size (fun _=>True) v800 x3_1)∧Aside0 (Below w.heap.size w w'))
 case atStart=>exact ⟨(t799),(0),rv,H',⟨Nat.le_refl _⟩,(ra (Kd.R_mono HO801.out (fun _ hk=>trivial))),bh HB⟩
 case round =>
  clear H';obtain ⟨x3_1,x4_1,rfl,HA,HK1,HO_3,HB⟩:=hrel;cases gk with
  | zero=>exact absurd HA.out (by simp [spec_FourBack.l0])
  | succ k1 =>
   have H:=HA.out;clear HA;simp only [spec_FourBack.l0] at H;replace H:=ifd H;rcases H with ⟨c15b0,H⟩ | ⟨c15b0,H⟩;rotate_left
   ·obtain rfl:=sj H;go_wp2;go_ret;exact ⟨_,re,ro HO_3.out,bo HB⟩
   replace H:=ifN H;obtain ⟨c16b0,H⟩:=H;replace H:=ifN H;obtain ⟨c17b0,H⟩:=H;replace H:=bnd H;obtain ⟨t803,A18,H⟩:=H;obtain ⟨y804,hy804⟩:∃ y_:List Int,y_=(x3_1.set (x4_1:Int).toNat t803):=⟨_,rfl⟩
   replace H:(spec_FourBack.l0 k1 y804 (wrap64 (x4_1 + 1)))=some r:=by subst hy804;exact H
   have Ny804:=am hy804;clear hy804;have H':=am H;clear H;obtain ⟨Ao20,co20,eo20⟩:=Kd.R_slice HO_3.out;subst eo20;have p802:0≤(x4_1:Int):=od;have q802:x4_1 < (x3_1.length:Int):=od;obtain ⟨ad802,e802,hx802_0⟩:=Kd.at_int (Kd.R_reads' HO_3.out).2.2 x4_1 p802 q802;cases e802;replace p802:=eq_true p802;replace q802:=eq_true q802;go_wp2_with (first|((with_reducible refine gc 93 ?_);refine gD (some 25) Tryz.func93 _ (spec_l09Down.calls _ _ _ _ A18.out) ?_ (hargs:=(by (try simp only [List.map_toArray,List.map_cons,List.map_nil]);first | done | rfl|(rw [show (wrap64 ((rd x3_1 x4_1) + 32))=((rd x3_1 x4_1) + 32) from by unfold wrap64;omega];rfl)|(simp only [List.length_drop,List.length_take];rfl)));intro nd;(try (rw [drewN_self wr];generalize hq_:World.drewN wr _=wr;have n0_:Aside0 (Kd.R (Kd.int .i64) 3 wr w.heap.size (fun k_=>True) (.slice (some ad802) x3_1.length co20) x3_1):=⟨by rw [← hq_];exact (ro HO_3.out)⟩;have n1_:Aside0 (Below w.heap.size w wr):=⟨by rw [← hq_];exact (bo HB)⟩;clear HO_3 HB hq_;have HO_3:=n0_;have HB:=n1_;clear n0_ n1_));have p19:0≤(x4_1:Int):=od;have q19:(x4_1:Int) < ((x3_1.length:Int):Int):=od;obtain ⟨go19,co19,eo19,gb19,gl19,cl19,HG19⟩:=Kd.R_form HO_3.out (by omega);(first | cases eo19|(injection eo19 with ea_ en_ ec_;(first | subst ea_|(injection ea_ with ea_;subst ea_));subst ec_;clear en_));have GB19:=am gb19;have GG19:=am HG19;clear gb19 gl19 HG19;(first | simp only [add_plain] at hx802_0 | skip);obtain ⟨hx19_0,hf19_0⟩:=Kd.R_celln 0 HO_3.out (x4_1:Int) p19 q19;replace p19:=eq_true p19;replace q19:=eq_true q19;obtain ⟨hy21_,hz21_⟩:=Kd.R_celln 0 HO_3.out (x4_1:Int) (od) (od);have HP21:=Kd.R_putg HO_3.out (x4_1:Int) t803)|((with_reducible refine gate_store (t:=3) (p:=26) rfl ?_);refine store_event (t:=3) (p:=26) (v:=?vo_w22) (w1:=(wr.setCell ⟨go19,(x4_1:Int).toNat,none⟩ (.int .i64 t803))) ?hg ?ho ?hn ?hr ?_;(case ho=>rfl);(case hg=>rfl);(case hn=>rfl);(case hr=>first|(go_simp;done)|(go_simp;rfl));intro w22 hw;have hg:wr.grownBy w22 (some go19):=(by rw [hw];exact HP21.2);have hp_:Kd.R (Kd.int .i64) 3 w22 w.heap.size (fun _=>True) (.slice (some ⟨go19,0,none⟩) x3_1.length co20) y804:=(by rw [hw,Ny804.out];exact HP21.1);clear HP21;replace HO_3:=am (hp_);replace HB:=am ((by rw [hw];exact below_set (HB.out) GB19.out:Below w.heap.size w w22));clear hg hw hp_));go_roundg k1;case measure=>have:=HK1.out;omega
   case rel=>exact ⟨(y804),(wrap64 (x4_1 + 1)),rv,H',⟨by have:=HK1.out;omega⟩,(ra HO_3.out),bh HB⟩
mutual
def spec_LevelsBack.j0:Nat→List Int→Bool→Bool→Int→Bool→Bool→Option (List Int × Bool)
 | 0,_,_,_,_,_,_=>none
 | k + 1,x0,x23,x806a,x806b,x806c,x806d=>if x23=true then (some ((([]:List Int)),false)) else (if x806d=true then ((spec_Unscanned.f k 8 x0).bind fun bt811=>(some (bt811.1,bt811.2))) else (if x806c=true then ((spec_Unscanned.f k 8 x0).bind fun bt815=>(spec_LevelsBack.l0 k bt815.1 0 x806a x806b x806c x806d)) else (if 64≤35184372088832 then (spec_LevelsBack.l1 k x0 (List.replicate 64 0) 0 x806a x806b x806c x806d) else (none))))
def spec_LevelsBack.l0:Nat→List Int→Int→Bool→Int→Bool→Bool→Option (List Int × Bool)
 | 0,_,_,_,_,_,_=>none
 | k + 1,x6,x8,x806a,x806b,x806c,x806d=>if x8 < 64 then (if 0≤x8 then (if x8 < (x6.length:Int) then ((spec_LargeBack.f k (rd x6 x8) x806b).bind fun t820=>(spec_LevelsBack.l0 k (x6.set (x8:Int).toNat t820) (wrap64 (x8 + 1)) x806a x806b x806c x806d)) else (none)) else (none)) else ((spec_EightBack.f k x6).bind fun t822=>(some (t822,true)))
def spec_LevelsBack.l1:Nat→List Int→List Int→Int→Bool→Int→Bool→Bool→Option (List Int × Bool)
 | 0,_,_,_,_,_,_,_=>none
 | k + 1,x0,x9,x10,x806a,x806b,x806c,x806d=>if x10 < 4 then (if 0≤(wrap64 (16 * x10)) then (if (wrap64 (16 * x10))≤(wrap64 ((wrap64 (16 * x10)) + 16)) then (if (wrap64 ((wrap64 (16 * x10)) + 16))≤(x0.length:Int) then ((spec_Unscanned.f k 4 ((x0.take ((wrap64 ((wrap64 (16 * x10)) + 16)):Int).toNat).drop ((wrap64 (16 * x10)):Int).toNat)).bind fun bt829=>(spec_LevelsBack.l2 k x0 x9 x10 bt829.1 0 x806a x806b x806c x806d)) else (none)) else (none)) else (none)) else (some (x9,true))
def spec_LevelsBack.l2:Nat→List Int→List Int→Int→List Int→Int→Bool→Int→Bool→Bool→Option (List Int × Bool)
 | 0,_,_,_,_,_,_,_,_,_=>none
 | k + 1,x0,x9,x10,x11,x13,x806a,x806b,x806c,x806d=>if x13 < 16 then (if 0≤x13 then (if x13 < (x11.length:Int) then ((spec_SmallBack.f k (rd x11 x13) x806b x13).bind fun t834=>(spec_LevelsBack.l2 k x0 x9 x10 (x11.set (x13:Int).toNat t834) (wrap64 (x13 + 1)) x806a x806b x806c x806d)) else (none)) else (none)) else ((spec_FourBack.f k x11).bind fun t836=>(spec_LevelsBack.l3 k x0 x9 x10 t836 0 x806a x806b x806c x806d))
def spec_LevelsBack.l3:Nat→List Int→List Int→Int→List Int→Int→Bool→Int→Bool→Bool→Option (List Int × Bool)
 | 0,_,_,_,_,_,_,_,_,_=>none
 | k + 1,x0,x9,x10,x14,x15,x806a,x806b,x806c,x806d=>if x15 < 16 then (if 0≤x15 then (if x15 < (x14.length:Int) then (if 0≤(wrap64 ((wrap64 ((wrap64 (8 * (wrap64 ((wrap64 ((wrap64 (Int.tdiv x10 2)) * 4)) + (wrap64 (Int.tdiv x15 4)))))) + (wrap64 ((Int.tmod x10 2) * 4)))) + (Int.tmod x15 4))) then (if (wrap64 ((wrap64 ((wrap64 (8 * (wrap64 ((wrap64 ((wrap64 (Int.tdiv x10 2)) * 4)) + (wrap64 (Int.tdiv x15 4)))))) + (wrap64 ((Int.tmod x10 2) * 4)))) + (Int.tmod x15 4))) < (x9.length:Int) then (spec_LevelsBack.l3 k x0 (x9.set ((wrap64 ((wrap64 ((wrap64 (8 * (wrap64 ((wrap64 ((wrap64 (Int.tdiv x10 2)) * 4)) + (wrap64 (Int.tdiv x15 4)))))) + (wrap64 ((Int.tmod x10 2) * 4)))) + (Int.tmod x15 4))):Int).toNat (rd x14 x15)) x10 x14 (wrap64 (x15 + 1)) x806a x806b x806c x806d) else (none)) else (none)) else (none)) else (none)) else (spec_LevelsBack.l1 k x0 x9 (wrap64 (x10 + 1)) x806a x806b x806c x806d)
end
def spec_LevelsBack.f (k:Nat) (l0:List Int) (a1_0:Bool) (a1_1:Int) (a1_2:Bool) (a1_3:Bool):Option (List Int × Bool):=(spec_CondOk.f a1_0 a1_1 a1_2 a1_3).bind fun t806=>(if t806=true then ((spec_l09All.f k l0 64 5000).bind fun t807=>(spec_LevelsBack.j0 k l0 (!t807) a1_0 a1_1 a1_2 a1_3)) else (spec_LevelsBack.j0 k l0 true a1_0 a1_1 a1_2 a1_3))
def spec_LevelsBack.T10:Bool × List (List Nat × List Nat):=(true,[([],[]),([],[]),([],[]),([],[]),([2,3],[2,3]),([4],[4]),([],[]),([6],[6]),([5,7],[5,7]),([0,1,0,1,2,3,4,5,6,7,8],[0,1]),([9,8,8,0,1,2,3,4,5,6,7,8],[8,9])])
def spec_LevelsBack.B10:List Nat:=[0,0,0,0,12,28,0,64,252,511,1023]
theorem spec_LevelsBack.tab10:rtab .any (opsOf Tryz.f49 10)=spec_LevelsBack.T10:=by kernel_rfl
theorem spec_LevelsBack.bits10:waitsOk spec_LevelsBack.T10.2 spec_LevelsBack.B10=true:=by kernel_rfl
def spec_LevelsBack.T20:Bool × List (List Nat × List Nat):=(true,[([],[]),([],[]),([],[]),([],[]),([2,3],[2,3]),([4],[4]),([],[]),([6],[6]),([],[]),([5,7,8],[5,7,8]),([0,1,0,1,2,3,4,5,6,7,8,9],[0,1]),([10,9,9,0,1,2,3,4,5,6,7,8,9],[9,10])])
def spec_LevelsBack.B20:List Nat:=[0,0,0,0,12,28,0,64,0,508,1023,2047]
theorem spec_LevelsBack.tab20:rtab .any (opsOf Tryz.f49 20)=spec_LevelsBack.T20:=by kernel_rfl
theorem spec_LevelsBack.bits20:waitsOk spec_LevelsBack.T20.2 spec_LevelsBack.B20=true:=by kernel_rfl
theorem spec_LevelsBack.calls (k:Nat) (A0:Option Addr) (c0:Nat) (l0:List Int) (a1_0:Bool) (a1_1:Int) (a1_2:Bool) (a1_3:Bool) (r1:List Int) (r2:Bool) (w:World) (hr0:Kd.C (Kd.int .i64) w A0 l0.length l0) (hc0:l0.length≤c0) (h:spec_LevelsBack.f k l0 a1_0 a1_1 a1_2 a1_3=some (r1,r2)) :
  Calls Tryz.prog 49 #[.slice A0 l0.length c0,.agg #[.bool a1_0,.int .i64 a1_1,.bool a1_2,.bool a1_3]] w fun e w'=>∃ v0_:Value,e=.returned (.tuple #[v0_,.bool r2])∧Kd.R (Kd.int .i64) 3 w' w.heap.size (fun _=>True) v0_ r1∧Below w.heap.size w w':=by
 have hu29:=Tryz.underlying29;have HR0:=am hr0;have HC0:=am hc0;clear hr0 hc0;have HB:=am (Below.refl w.heap.size w);have H:=h;clear h;unfold spec_LevelsBack.f at H;have HC3:=am H;clear H;go_enter Tryz.func49,Tryz.ntmps49;go_upto_region 1 with (first|((with_reducible refine gd 3 ?_);refine bx 3 #[.bool a1_0,.int .i64 a1_1,.bool a1_2,.bool a1_3] 29 ?_;intro gb805 hg w4 BK805 hb;have GE805:=ge HB hg;replace HB:=bs HB hb;clear hb hg))
 (try simp only [Act.put,List.setIfInBounds_toArray,List.set_cons_zero,List.set_cons_succ])
 go_cut [23] (fun v23 wc=>∃ (kq:Nat) (x23_2:Bool),v23=.bool x23_2∧Aside0 (spec_LevelsBack.j0 kq l0 x23_2 a1_0 a1_1 a1_2 a1_3=some (r1,r2))∧Aside0 (kq≤k)∧Aside0 (wc.heap[gb805]?=some (.cells #[.bool a1_0,.int .i64 a1_1,.bool a1_2,.bool a1_3] 29 (0,0)))∧Aside0 (Below w.heap.size w wc))
 case first =>
  have H:=HC3.out;clear HC3;replace H:=bnd H;obtain ⟨t806,A5,H⟩:=H;replace H:=ifb H;rcases H with ⟨rfl,H⟩ | ⟨rfl,H⟩
  ·replace H:=bnd H;obtain ⟨t807,A7,H⟩:=H;have H':=am H;clear H;obtain ⟨z8a,z8b,z8c,z8d,z8p,z8q,z8r,z8s⟩:=cl4 BK805;go_wp2_with (first|((with_reducible refine gc 43 ?_);refine gB (some 17) Tryz.func43 _ (spec_CondOk.calls _ _ _ _ _ _ A5.out) ?_;intro w9 hb;replace BK805:=bb BK805 hb;replace HB:=bs HB hb)|(go_at_call 69;(with_reducible refine (spec_l09All.calls k _ _ l0 64 5000 t807 _ ?side1 ?side2 A7.out).mono ?_);(case side1=>exact ca (Kd.C_below HR0.out HB.out));(case side2=>exact HC0.out);rintro e w' ⟨rfl,⟨nd,rfl⟩⟩));go_meet;case rel=>exact ⟨_,(!t807),rv,H',om,bk BK805,bh HB⟩
  ·have H':=am H;clear H;obtain ⟨z10a,z10b,z10c,z10d,z10p,z10q,z10r,z10s⟩:=cl4 BK805;go_wp2_with (first|((with_reducible refine gc 43 ?_);refine gB (some 17) Tryz.func43 _ (spec_CondOk.calls _ _ _ _ _ _ A5.out) ?_;intro w11 hb;replace BK805:=bb BK805 hb;replace HB:=bs HB hb));go_meet;case rel=>exact ⟨_,(true),rv,H',om,bk BK805,bh HB⟩
 case rest =>
  clear HC3;try clear z10a z10b z10c z10d z10p z10q z10r z10s
  try clear z8a z8b z8c z8d z8p z8q z8r z8s
  obtain ⟨kq,x23_2,rfl,HA,HJ2,BK805,HB⟩:=hcut;cases kq with
  | zero=>exact absurd HA.out (by simp [spec_LevelsBack.j0])
  | succ kj2 =>
   have H:=HA.out;clear HA;simp only [spec_LevelsBack.j0] at H;replace H:=ifb H;rcases H with ⟨rfl,H⟩ | ⟨rfl,H⟩
   ·obtain ⟨y808,hy808⟩:∃ y_:List Int,y_=(([]:List Int)):=⟨_,rfl⟩
    replace H:(some (y808,false))=some (r1,r2):=by subst hy808;exact H
    have Ny808:=am hy808;clear hy808;obtain ⟨rfl,rfl⟩:=sj2 H;go_wp2_with (first|((with_reducible refine gd 24 ?_);refine Kd.R_lit (Kd.int .i64) _ 3 ?hg (N:=24) ?hd (xs:=([]:List Int)) (inner:=[]) (ok:=fun _=>True) (okp:=fun _=>True) ?hr ?hp (fun _ hk=>hk) trivial (Below.refl _ _) (Nat.le_refl _) (by simp) ?_;(case hd=>rfl);(case hg=>rfl);(case hr=>first|(go_simp;done)|(go_simp;rfl));(case hp=>exact (Reps.none _ _));intro v809 w13 ho14 hb hg_ hnew_;clear hg_ hnew_;(first | rw [← Ny808.out] at ho14|(simp only [Int.reduceToNat] at ho14;rw [← Ny808.out] at ho14));have HO810:=am (Kd.R_lower ho14 (below_size (bo HB)));replace BK805:=bb BK805 hb;replace HB:=bs HB hb;clear hb ho14));go_ret2
    exact ⟨_,re,ro HO810.out,bo HB⟩
   ·replace H:=ifb H;rcases H with ⟨rfl,H⟩ | ⟨rfl,H⟩
    ·replace H:=bnd H;obtain ⟨⟨t811,t812⟩,A16,H⟩:=H;dsimp only at H;obtain ⟨rfl,rfl⟩:=sj2 H;obtain ⟨z17a,z17b,z17c,z17d,z17p,z17q,z17r,z17s⟩:=cl4 BK805;go_wp2_with (first|((with_reducible refine gc 71 ?_);refine gX (some 28) Tryz.func71 _ (spec_Unscanned.calls _ _ _ _ _ _ _ _ (ca (Kd.C_below HR0.out HB.out)) HC0.out A16.out) ?_;rintro v813 w18 ⟨ho0,hb⟩;have HO814:=am (Kd.R_lower ho0 (below_size (bo HB)));replace BK805:=bb BK805 hb;replace HB:=bs HB hb;(try clear hb);(try clear ho0)));go_ret2
     exact ⟨_,re,ro HO814.out,bo HB⟩
    ·replace H:=ifb H;rcases H with ⟨rfl,H⟩ | ⟨rfl,H⟩
     ·replace H:=bnd H;obtain ⟨⟨t815,t816⟩,A20,H⟩:=H;dsimp only at H;have H':=am H;clear H;obtain ⟨z21a,z21b,z21c,z21d,z21p,z21q,z21r,z21s⟩:=cl4 BK805;go_wp2_with (first|((with_reducible refine gc 71 ?_);refine gX (some 35) Tryz.func71 _ (spec_Unscanned.calls _ _ _ _ _ _ _ _ (ca (Kd.C_below HR0.out HB.out)) HC0.out A20.out) ?_;rintro v817 w22 ⟨ho0,hb⟩;have HO818:=am (Kd.R_lower ho0 (below_size (bo HB)));replace BK805:=bb BK805 hb;replace HB:=bs HB hb;(try clear hb);(try clear ho0)));go_loopg [8] kj2 (fun kq v8 w'=>∃ (x6_2:List Int) (x8_2:Int),v8=.int .i64 x8_2∧Aside0 (spec_LevelsBack.l0 kq x6_2 x8_2 a1_0 a1_1 true false=some (r1,r2))∧Aside0 (kq≤kj2)∧Aside0 (Kd.R (Kd.int .i64) 3 w' w.heap.size (fun _=>True) v817 x6_2)∧Aside0 (w'.heap[gb805]?=some (.cells #[.bool a1_0,.int .i64 a1_1,.bool true,.bool false] 29 (0,0)))∧Aside0 (Below w.heap.size w w'))
      case atStart=>exact ⟨(t815),(0),rv,H',⟨Nat.le_refl _⟩,(ra HO818.out),bk BK805,bh HB⟩
      case round =>
       clear H';try clear z10a z10b z10c z10d z10p z10q z10r z10s
       try clear z17a z17b z17c z17d z17p z17q z17r z17s
       try clear z21a z21b z21c z21d z21p z21q z21r z21s
       try clear z8a z8b z8c z8d z8p z8q z8r z8s
       obtain ⟨x6_2,x8_2,rfl,HA,HK2,HO_6,BK805,HB⟩:=hrel;cases gk with
       | zero=>exact absurd HA.out (by simp [spec_LevelsBack.l0])
       | succ k2 =>
        have H:=HA.out;clear HA;simp only [spec_LevelsBack.l0] at H;replace H:=ifd H;rcases H with ⟨c23b0,H⟩ | ⟨c23b0,H⟩;rotate_left
        ·replace H:=bnd H;obtain ⟨t822,A31,H⟩:=H;obtain ⟨rfl,rfl⟩:=sj2 H;obtain ⟨Ao32,co32,eo32⟩:=Kd.R_slice HO_6.out;subst eo32;go_wp2_with (first|((with_reducible refine gc 73 ?_);refine gX (some 53) Tryz.func73 _ (spec_EightBack.calls _ _ _ _ _ _ (ca ((Kd.R_reads' HO_6.out).2.2)) ((Kd.R_reads' HO_6.out).2.1) A31.out) ?_;rintro v823 w33 ⟨ho0,hb⟩;have HO824:=am (Kd.R_lower (Kd.R_new' ho0 (Kd.R_lt (ro HO_6.out))) (below_size (bo HB)));replace HO_6:=am (Kd.R_elder' (ro HO_6.out) (Kd.R_base ho0) hb);replace BK805:=bb BK805 hb;replace HB:=bs HB hb;(try clear hb);(try clear ho0)));go_ret2
         exact ⟨_,re,ro (Kd.R_mono HO824.out (fun _ hk=>trivial)),bo HB⟩
        replace H:=ifN H;obtain ⟨c24b0,H⟩:=H;replace H:=ifN H;obtain ⟨c25b0,H⟩:=H;replace H:=bnd H;obtain ⟨t820,A26,H⟩:=H;obtain ⟨y821,hy821⟩:∃ y_:List Int,y_=(x6_2.set (x8_2:Int).toNat t820):=⟨_,rfl⟩
        replace H:(spec_LevelsBack.l0 k2 y821 (wrap64 (x8_2 + 1)) a1_0 a1_1 true false)=some (r1,r2):=by subst hy821;exact H
        have Ny821:=am hy821;clear hy821;have H':=am H;clear H;try go_wp2
        replace HO_6:=am (Kd.R_drew HO_6.out);replace BK805:=am (blk_drew BK805.out);replace HB:=am (below_drew1 HB.out);obtain ⟨Ao29,co29,eo29⟩:=Kd.R_slice HO_6.out;(first | subst eo29|(injection eo29 with f1_ f2_ f3_;have f4_:=f1_.symm;have f5_:=f3_.symm;clear f1_ f2_ f3_;subst f4_;subst f5_))
        have p819:0≤(x8_2:Int):=od;have q819:x8_2 < (x6_2.length:Int):=od;obtain ⟨ad819,e819,hx819_0⟩:=Kd.at_int (Kd.R_reads' HO_6.out).2.2 x8_2 p819 q819;cases e819;replace p819:=eq_true p819;replace q819:=eq_true q819;refine start_ (n:=11) (S:=fun w'=>w'.cell? ⟨gb805,0,none⟩=some (.bool a1_0)∧w'.cell? ⟨gb805,1,none⟩=some (.int .i64 a1_1)∧w'.cell? ⟨gb805,2,none⟩=some (.bool true)∧w'.cell? ⟨gb805,3,none⟩=some (.bool false)∧w'.cell? (ad819.add (x8_2).toNat)=some (.int .i64 (rd x6_2 x8_2))) (ds:=[10]) (ba 11 0) (by kernel_rfl) rfl rfl ⟨bc BK805 0,bc BK805 1,bc BK805 2,bc BK805 3,hx819_0⟩ (fun hHeld=>?_);refine with_tabW spec_LevelsBack.tab10 spec_LevelsBack.bits10 (fun HT_ HW_=>?_);generalize wr.drew=w28 at HO_6 BK805 HB hx819_0 hHeld ⊢;refine pu 0 42 (ba 11 1) ?_;refine pu 1 43 (ba 11 3) ?_;refine pu 2 44 (ba 11 7) ?_;refine pu 3 45 (ba 11 15) ?_;refine pu 4 46 (ba 11 31) ?_;refine pu 6 48 (ba 11 95) ?_;refine tk 5 47 (ba 11 127) hHeld ?_;refine tk 7 49 (ba 11 255) hHeld ?_;refine on 8 50 (ba 11 511) (fun K hK=>?_);refine gS Tryz.func72 #[.int .i64 (rd x6_2 x8_2),.int .i64 a1_1] ?_
        with_reducible refine (spec_LargeBack.calls k2 (rd x6_2 x8_2) a1_1 t820 _ A26.out).mono ?_
        rintro e w' ⟨rfl,⟨nd,rfl⟩⟩;refine ⟨_,rfl,?_⟩;have p27:0≤(x8_2:Int):=od;have q27:(x8_2:Int) < ((x6_2.length:Int):Int):=od;obtain ⟨go27,co27,eo27,gb27,gl27,cl27,HG27⟩:=Kd.R_form HO_6.out (by omega);(first | cases eo27|(injection eo27 with ea_ en_ ec_;(first | subst ea_|(injection ea_ with ea_;subst ea_));subst ec_;clear en_))
        have GB27:=am gb27;have GG27:=am HG27;clear gb27 gl27 HG27;(first | simp only [add_plain] at hx819_0 | skip)
        obtain ⟨hx27_0,hf27_0⟩:=Kd.R_celln 0 HO_6.out (x8_2:Int) p27 q27;replace p27:=eq_true p27;replace q27:=eq_true q27;have HP30:=Kd.R_putn HO_6.out (x8_2:Int) t820;rw [← Ny821.out] at HP30;have HQ30:=am HP30;clear HP30;refine hK.out _ _ ⟨bc BK805 0,bc BK805 1,bc BK805 2,bc BK805 3,hHeld.2.2.2.2⟩ (fun hHeld=>?_);clear hK K;refine nm ?_;refine pu 9 51 (ba 11 1023) ?_;refine last_ (i:=10) (N:=none) (ba 11 2047) rfl rfl (one_of HT_.out (by kernel_rfl)) (by decide) (fun K hK=>?_);refine sk ?_;refine hK.out _ _ ?_;clear hK K;refine done_ (done_of HT_.out (by kernel_rfl)) ?_;try go_wp2
        go_roundg k2;case measure=>have:=HJ2.out;have:=HK2.out;omega
        case rel=>exact ⟨(y821),(wrap64 (x8_2 + 1)),rv,H',⟨by have:=HJ2.out;have:=HK2.out;omega⟩,(ra HQ30.out),⟨by (with_reducible repeat (first | refine blk_drewN ?_ _ | refine blk_drew ?_ | refine blk_alloc ?_ _));refine blk_far ?_ (by have h_:=Kd.R_ne HO_6.out BK805.out (by decide);intro e_;exact h_ (by rw [e_];rfl)) _;(with_reducible repeat (first | refine blk_drewN ?_ _ | refine blk_drew ?_ | refine blk_alloc ?_ _));exact BK805.out⟩,bh HB⟩
     ·by_cases c34:64≤35184372088832;rotate_left
      ·rw [if_neg c34] at H;cases H
      rw [if_pos c34] at H;have c34b0:=eq_true c34;have c34b1:=decide_eq_true c34;clear c34;obtain ⟨y825,hy825⟩:∃ y_:List Int,y_=(List.replicate 64 0):=⟨_,rfl⟩
      replace H:(spec_LevelsBack.l1 kj2 l0 y825 0 a1_0 a1_1 false false)=some (r1,r2):=by subst hy825;exact H
      have Ny825:=am hy825;clear hy825;have H':=am H;clear H;obtain ⟨z35a,z35b,z35c,z35d,z35p,z35q,z35r,z35s⟩:=cl4 BK805;go_wp2_with (first|((with_reducible refine gd 54 ?_);refine Kd.R_make (Kd.int .i64) _ 3 rfl (N:=54) rfl 33 _ _ rfl 64 rfl rfl Tryz.underlying33 (.int .i64 0) 8 info3 rfl (by decide) (by omega) 0 (ok:=fun _=>True) (okp:=fun _=>True) rfl (fun _ hk=>hk) trivial (by omega) (by omega) (Below.refl _ _) (Nat.le_refl _) ?_;intro v826 w36 ho37 hb hg_ hnew_;clear hg_ hnew_;(first | rw [← Ny825.out] at ho37|(simp only [Int.reduceToNat] at ho37;rw [← Ny825.out] at ho37));have HO827:=am (Kd.R_lower ho37 (below_size (bo HB)));replace BK805:=bb BK805 hb;replace HB:=bs HB hb;clear hb ho37));go_loopg [10] kj2 (fun kq v10 w'=>∃ (x9_2:List Int) (x10_2:Int),v10=.int .i64 x10_2∧Aside0 (spec_LevelsBack.l1 kq l0 x9_2 x10_2 a1_0 a1_1 false false=some (r1,r2))∧Aside0 (kq≤kj2)∧Aside0 (Kd.R (Kd.int .i64) 3 w' w.heap.size (fun _=>True) v826 x9_2)∧Aside0 (w'.heap[gb805]?=some (.cells #[.bool a1_0,.int .i64 a1_1,.bool false,.bool false] 29 (0,0)))∧Aside0 (Below w.heap.size w w'))
      case atStart=>exact ⟨(y825),(0),rv,H',⟨Nat.le_refl _⟩,(ra HO827.out),bk BK805,bh HB⟩
      case round =>
       clear H';try clear q2
       try clear hx2
       try clear hf2
       try clear q8
       try clear hx8
       try clear q27
       try clear hx27
       try clear hf27
       try clear z10a z10b z10c z10d z10p z10q z10r z10s
       try clear z17a z17b z17c z17d z17p z17q z17r z17s
       try clear z21a z21b z21c z21d z21p z21q z21r z21s
       try clear z35a z35b z35c z35d z35p z35q z35r z35s
       try clear z8a z8b z8c z8d z8p z8q z8r z8s
       try clear hx27_0
       try clear hx819_0
       try clear q27
       try clear q819
       obtain ⟨x9_2,x10_2,rfl,HA,HK2,HO_9,BK805,HB⟩:=hrel;cases gk with
       | zero=>exact absurd HA.out (by simp [spec_LevelsBack.l1])
       | succ k2 =>
        have H:=HA.out;clear HA;simp only [spec_LevelsBack.l1] at H;replace H:=ifd H;rcases H with ⟨c38b0,H⟩ | ⟨c38b0,H⟩;rotate_left
        ·obtain ⟨rfl,rfl⟩:=sj2 H;go_wp2;go_ret2
         exact ⟨_,re,ro HO_9.out,bo HB⟩
        obtain ⟨ji39,hji39⟩:∃ j_:Int,(wrap64 (16 * x10_2))=j_:=⟨_,rfl⟩
        replace H:(if 0≤(ji39) then (if (ji39)≤(wrap64 ((ji39) + 16)) then (if (wrap64 ((ji39) + 16))≤(l0.length:Int) then ((spec_Unscanned.f k2 4 ((l0.take ((wrap64 ((ji39) + 16)):Int).toNat).drop ((ji39):Int).toNat)).bind fun bt829=>(spec_LevelsBack.l2 k2 l0 x9_2 x10_2 bt829.1 0 a1_0 a1_1 false false)) else (none)) else (none)) else (none))=some (r1,r2):=by first|(rw [hji39] at H;exact H)|(simp only [hji39] at H ⊢;exact H)
        have hji39w:(IntKind.i64.wrap (16 * x10_2))=ji39:=(i64_w _).trans hji39;replace H:=ifn H;obtain ⟨c40,H⟩:=H;have c40b0:=eq_true c40;have c40b1:=decide_eq_true c40;clear c40;replace H:=ifn H;obtain ⟨c41,H⟩:=H;have c41b0:=eq_true c41;have c41b1:=decide_eq_true c41;replace H:=ifn H;obtain ⟨c42,H⟩:=H;have c42b0:=eq_true c42;have c42b1:=decide_eq_true c42;replace H:=bnd H;obtain ⟨⟨t829,t830⟩,A43,H⟩:=H;dsimp only at H;have H':=am H;clear H;obtain ⟨i044,hi044,_,hsz44,_⟩:=info_parts info3;obtain ⟨A44,hcut44,hA44,hC44⟩:=print_mid_of (P:=Tryz.prog) (Value.int .i64) 0 33 3 .i64 .i64 Tryz.underlying33 hi044 hsz44 A0 c0 l0 (ji39) (wrap64 ((ji39) + 16)) (od) (by first | omega | exact od) (od) HC0.out;have HR828:=am (Kd.C_of_reads (h1:=fun _=>rfl) (hA44 _ (Kd.reads_of_C HR0.out)));have HC828:=am hC44;clear hA44 hC44 hi044 hsz44;go_wp2_with (first|((with_reducible refine gc 71 ?_);refine gX (some 67) Tryz.func71 _ (spec_Unscanned.calls _ _ _ _ _ _ _ _ (ca (Kd.C_below HR828.out HB.out)) HC828.out A43.out) ?_ (hargs:=(by (try simp only [List.map_toArray,List.map_cons,List.map_nil]);first | done|(rw [show ((l0.take ((wrap64 ((ji39) + 16)):Int).toNat).drop ((ji39):Int).toNat).length=((wrap64 ((ji39) + 16)).toNat - (ji39).toNat) from (by rw [List.length_drop,List.length_take];have h_:((wrap64 ((ji39) + 16)):Int)≤(l0.length:Int):=od;omega)] <;> rfl)|(simp only [hji39];rfl) | rfl|(simp only [List.length_drop,List.length_take];rfl)));rintro v831 w45 ⟨ho0,hb⟩;have HO832:=am (Kd.R_lower (Kd.R_new' ho0 (Kd.R_lt (ro HO_9.out))) (below_size (bo HB)));replace HO_9:=am (Kd.R_elder' (ro HO_9.out) (Kd.R_base ho0) hb);replace BK805:=bb BK805 hb;replace HB:=bs HB hb;(try clear hb);(try clear ho0)));go_loopg [13] k2 (fun kq v13 w'=>∃ (x11_3:List Int) (x13_3:Int),v13=.int .i64 x13_3∧Aside0 (spec_LevelsBack.l2 kq l0 x9_2 x10_2 x11_3 x13_3 a1_0 a1_1 false false=some (r1,r2))∧Aside0 (kq≤k2)∧Aside0 (Kd.R (Kd.int .i64) 3 w' w.heap.size (fun k_=>some k_≠(v831:Value).ownBlock) v826 x9_2)∧Aside0 (Kd.R (Kd.int .i64) 3 w' w.heap.size (fun k_=>some k_≠(v826:Value).ownBlock) v831 x11_3)∧Aside0 (w'.heap[gb805]?=some (.cells #[.bool a1_0,.int .i64 a1_1,.bool false,.bool false] 29 (0,0)))∧Aside0 (Below w.heap.size w w'))
        case atStart=>exact ⟨(t829),(0),rv,H',⟨Nat.le_refl _⟩,(ra (Kd.R_mono HO_9.out (fun _ hk=>hk.2))),(ra (Kd.R_mono HO832.out (fun _ hk=>hk.2))),bk BK805,bh HB⟩
        case round =>
         clear H';try clear q2
         try clear hx2
         try clear hf2
         try clear q8
         try clear hx8
         try clear q27
         try clear hx27
         try clear hf27
         try clear z10a z10b z10c z10d z10p z10q z10r z10s
         try clear z17a z17b z17c z17d z17p z17q z17r z17s
         try clear z21a z21b z21c z21d z21p z21q z21r z21s
         try clear z35a z35b z35c z35d z35p z35q z35r z35s
         try clear z8a z8b z8c z8d z8p z8q z8r z8s
         try clear hx27_0
         try clear hx819_0
         try clear q2
         try clear q27
         try clear q8
         try clear q819
         obtain ⟨x11_3,x13_3,rfl,HA,HK3,HO_9,HO_11,BK805,HB⟩:=hrel;cases gk with
         | zero=>exact absurd HA.out (by simp [spec_LevelsBack.l2])
         | succ k3 =>
          have H:=HA.out;clear HA;simp only [spec_LevelsBack.l2] at H;replace H:=ifd H;rcases H with ⟨c46b0,H⟩ | ⟨c46b0,H⟩;rotate_left
          ·replace H:=bnd H;obtain ⟨t836,A54,H⟩:=H;have H':=am H;clear H;obtain ⟨Ao55,co55,eo55⟩:=Kd.R_slice HO_11.out;subst eo55;go_wp2_with (first|((with_reducible refine gc 75 ?_);refine gX (some 86) Tryz.func75 _ (spec_FourBack.calls _ _ _ _ _ _ (ca ((Kd.R_reads' HO_11.out).2.2)) ((Kd.R_reads' HO_11.out).2.1) A54.out) ?_;rintro v837 w56 ⟨ho0,hb⟩;have HO838:=am (Kd.R_lower (Kd.R_new' (Kd.R_new' ho0 (Kd.R_lt (ro HO_9.out))) (Kd.R_lt (ro HO_11.out))) (below_size (bo HB)));replace HO_9:=am (Kd.R_elder' (ro HO_9.out) (Kd.R_base ho0) hb);replace HO_11:=am (Kd.R_elder' (ro HO_11.out) (Kd.R_base ho0) hb);replace BK805:=bb BK805 hb;replace HB:=bs HB hb;(try clear hb);(try clear ho0)));go_loopg [15] k3 (fun kq v15 w'=>∃ (x9_4:List Int) (x15_4:Int),v15=.int .i64 x15_4∧Aside0 (spec_LevelsBack.l3 kq l0 x9_4 x10_2 t836 x15_4 a1_0 a1_1 false false=some (r1,r2))∧Aside0 (kq≤k3)∧Aside0 (Kd.R (Kd.int .i64) 3 w' w.heap.size (fun k_=>some k_≠(v837:Value).ownBlock) v826 x9_4)∧Aside0 (Kd.R (Kd.int .i64) 3 w' w.heap.size (fun k_=>some k_≠(v826:Value).ownBlock) v837 t836)∧Aside0 (w'.heap[gb805]?=some (.cells #[.bool a1_0,.int .i64 a1_1,.bool false,.bool false] 29 (0,0)))∧Aside0 (Below w.heap.size w w'))
           case atStart=>exact ⟨(x9_2),(0),rv,H',⟨Nat.le_refl _⟩,(ra (Kd.R_mono HO_9.out (fun _ hk=>hk.2))),(ra (Kd.R_mono HO838.out (fun _ hk=>hk.1.2))),bk BK805,bh HB⟩
           case round =>
            clear H';try clear q2
            try clear hx2
            try clear hf2
            try clear q5
            try clear hx5
            try clear hf5
            try clear q8
            try clear hx8
            try clear q27
            try clear hx27
            try clear hf27
            try clear q50
            try clear hx50
            try clear hf50
            try clear z10a z10b z10c z10d z10p z10q z10r z10s
            try clear z17a z17b z17c z17d z17p z17q z17r z17s
            try clear z21a z21b z21c z21d z21p z21q z21r z21s
            try clear z35a z35b z35c z35d z35p z35q z35r z35s
            try clear z8a z8b z8c z8d z8p z8q z8r z8s
            try clear hx27_0
            try clear hx50_0
            try clear hx819_0
            try clear hx833_0
            try clear q2
            try clear q27
            try clear q50
            try clear q8
            try clear q819
            try clear q833
            obtain ⟨x9_4,x15_4,rfl,HA,HK4,HO_9,HO_14,BK805,HB⟩:=hrel;cases gk with
            | zero=>exact absurd HA.out (by simp [spec_LevelsBack.l3])
            | succ k4 =>
             have H:=HA.out;clear HA;simp only [spec_LevelsBack.l3] at H;replace H:=ifd H;rcases H with ⟨c57b0,H⟩ | ⟨c57b0,H⟩;rotate_left
             ·have H':=am H;clear H;go_wp2;go_roundg k4;case measure=>have:=HJ2.out;have:=HK2.out;have:=HK3.out;have:=HK4.out;omega
              case rel=>exact ⟨(x9_4),(wrap64 (x10_2 + 1)),rv,H',⟨by have:=HJ2.out;have:=HK2.out;have:=HK3.out;have:=HK4.out;omega⟩,(ra (Kd.R_mono HO_9.out (fun _ hk=>trivial))),bk BK805,bh HB⟩
             replace H:=ifN H;obtain ⟨c58b0,H⟩:=H;replace H:=ifN H;obtain ⟨c59b0,H⟩:=H;obtain ⟨ji60,hji60⟩:∃ j_:Int,(wrap64 ((wrap64 ((wrap64 (8 * (wrap64 ((wrap64 ((wrap64 (Int.tdiv x10_2 2)) * 4)) + (wrap64 (Int.tdiv x15_4 4)))))) + (wrap64 ((Int.tmod x10_2 2) * 4)))) + (Int.tmod x15_4 4)))=j_:=⟨_,rfl⟩
             replace H:(if 0≤(ji60) then (if (ji60) < (x9_4.length:Int) then (spec_LevelsBack.l3 k4 l0 (x9_4.set ((ji60):Int).toNat (rd t836 x15_4)) x10_2 t836 (wrap64 (x15_4 + 1)) a1_0 a1_1 false false) else (none)) else (none))=some (r1,r2):=by first|(rw [hji60] at H;exact H)|(simp only [hji60] at H ⊢;exact H)
             have hji60w:(IntKind.i64.wrap ((wrap64 ((wrap64 (8 * (wrap64 ((wrap64 ((wrap64 (Int.tdiv x10_2 2)) * 4)) + (wrap64 (Int.tdiv x15_4 4)))))) + (wrap64 ((Int.tmod x10_2 2) * 4)))) + (Int.tmod x15_4 4)))=ji60:=(i64_w _).trans hji60;replace H:=ifN H;obtain ⟨c61b0,H⟩:=H;replace H:=ifN H;obtain ⟨c62b0,H⟩:=H;obtain ⟨y840,hy840⟩:∃ y_:List Int,y_=(x9_4.set ((ji60):Int).toNat (rd t836 x15_4)):=⟨_,rfl⟩
             replace H:(spec_LevelsBack.l3 k4 l0 y840 x10_2 t836 (wrap64 (x15_4 + 1)) a1_0 a1_1 false false)=some (r1,r2):=by subst hy840;exact H
             have Ny840:=am hy840;clear hy840;have H':=am H;clear H;obtain ⟨Ao64,co64,eo64⟩:=Kd.R_slice HO_14.out;subst eo64;have p839:0≤(x15_4:Int):=od;have q839:x15_4 < (t836.length:Int):=od;obtain ⟨ad839,e839,hx839_0⟩:=Kd.at_int (Kd.R_reads' HO_14.out).2.2 x15_4 p839 q839;cases e839;replace p839:=eq_true p839;replace q839:=eq_true q839;have p63:0≤((ji60):Int):=od;have q63:((ji60):Int) < ((x9_4.length:Int):Int):=od;obtain ⟨go63,co63,eo63,gb63,gl63,cl63,HG63⟩:=Kd.R_form HO_9.out (by omega);(first | cases eo63|(injection eo63 with ea_ en_ ec_;(first | subst ea_|(injection ea_ with ea_;subst ea_));subst ec_;clear en_))
             have GB63:=am gb63;have GG63:=am HG63;clear gb63 gl63 HG63;obtain ⟨hx63_0,hf63_0⟩:=Kd.R_celln 0 HO_9.out ((ji60):Int) p63 q63;replace p63:=eq_true p63;replace q63:=eq_true q63;have HP65:=Kd.R_putg HO_9.out ((ji60):Int) (rd t836 x15_4);go_wp2_with (first|((with_reducible refine gate_store (t:=3) (p:=110) rfl ?_);refine store_event (t:=3) (p:=110) (v:=?vo_w66) (w1:=(wr.setCell ⟨go63,((ji60):Int).toNat,none⟩ (.int .i64 (rd t836 x15_4)))) ?hg ?ho ?hn ?hr ?_;(case ho=>rfl);(case hg=>rfl);(case hn=>rfl);(case hr=>first|(go_simp;done)|(go_simp;rfl));intro w66 hw;have hg:wr.grownBy w66 (some go63):=(by rw [hw];exact HP65.2);have hp_:Kd.R (Kd.int .i64) 3 w66 w.heap.size (fun k_=>some k_≠(.slice (some ad839) t836.length co64:Value).ownBlock) (.slice (some ⟨go63,0,none⟩) x9_4.length co63) y840:=(by rw [hw,Ny840.out];exact HP65.1);clear HP65;replace HO_14:=am (Kd.R_after (v:=(.slice (some ⟨go63,0,none⟩) x9_4.length co63)) (v1:=(.slice (some ⟨go63,0,none⟩) x9_4.length co63)) (ok:=(fun _=>True)) (ro (Kd.R_mono HO_14.out (fun _ hk=>⟨trivial,hk⟩))) hg (.inl rfl));replace BK805:=am (blk_grown (bt BK805) hg (Kd.R_ne HO_9.out BK805.out (by decide)));replace HO_9:=am (hp_);replace HB:=am ((by rw [hw];exact below_set (HB.out) GB63.out:Below w.heap.size w w66));clear hg hw hp_));go_roundg k4;case measure=>have:=HJ2.out;have:=HK2.out;have:=HK3.out;have:=HK4.out;omega
             case rel=>exact ⟨(y840),(wrap64 (x15_4 + 1)),rv,H',⟨by have:=HJ2.out;have:=HK2.out;have:=HK3.out;have:=HK4.out;omega⟩,(ra HO_9.out),(ra (Kd.R_mono HO_14.out (fun _ hk=>hk.2))),bk BK805,bh HB⟩
          replace H:=ifN H;obtain ⟨c47b0,H⟩:=H;replace H:=ifN H;obtain ⟨c48b0,H⟩:=H;replace H:=bnd H;obtain ⟨t834,A49,H⟩:=H;obtain ⟨y835,hy835⟩:∃ y_:List Int,y_=(x11_3.set (x13_3:Int).toNat t834):=⟨_,rfl⟩
          replace H:(spec_LevelsBack.l2 k3 l0 x9_2 x10_2 y835 (wrap64 (x13_3 + 1)) a1_0 a1_1 false false)=some (r1,r2):=by subst hy835;exact H
          have Ny835:=am hy835;clear hy835;have H':=am H;clear H;try go_wp2
          replace HO_9:=am (Kd.R_drew HO_9.out);replace HO_11:=am (Kd.R_drew HO_11.out);replace BK805:=am (blk_drew BK805.out);replace HB:=am (below_drew1 HB.out);obtain ⟨Ao52,co52,eo52⟩:=Kd.R_slice HO_11.out;(first | subst eo52|(injection eo52 with f1_ f2_ f3_;have f4_:=f1_.symm;have f5_:=f3_.symm;clear f1_ f2_ f3_;subst f4_;subst f5_))
          have p833:0≤(x13_3:Int):=od;have q833:x13_3 < (x11_3.length:Int):=od;obtain ⟨ad833,e833,hx833_0⟩:=Kd.at_int (Kd.R_reads' HO_11.out).2.2 x13_3 p833 q833;cases e833;replace p833:=eq_true p833;replace q833:=eq_true q833;refine start_ (n:=12) (S:=fun w'=>w'.cell? ⟨gb805,0,none⟩=some (.bool a1_0)∧w'.cell? ⟨gb805,1,none⟩=some (.int .i64 a1_1)∧w'.cell? ⟨gb805,2,none⟩=some (.bool false)∧w'.cell? ⟨gb805,3,none⟩=some (.bool false)∧w'.cell? (ad833.add (x13_3).toNat)=some (.int .i64 (rd x11_3 x13_3))) (ds:=[11]) (ba 12 0) (by kernel_rfl) rfl rfl ⟨bc BK805 0,bc BK805 1,bc BK805 2,bc BK805 3,hx833_0⟩ (fun hHeld=>?_);refine with_tabW spec_LevelsBack.tab20 spec_LevelsBack.bits20 (fun HT_ HW_=>?_);generalize wr.drew=w51 at HO_9 HO_11 BK805 HB hx833_0 hHeld ⊢;refine pu 0 74 (ba 12 1) ?_;refine pu 1 75 (ba 12 3) ?_;refine pu 2 76 (ba 12 7) ?_;refine pu 3 77 (ba 12 15) ?_;refine pu 4 78 (ba 12 31) ?_;refine pu 6 80 (ba 12 95) ?_;refine pu 8 82 (ba 12 351) ?_;refine tk 5 79 (ba 12 383) hHeld ?_;refine tk 7 81 (ba 12 511) hHeld ?_;refine on 9 83 (ba 12 1023) (fun K hK=>?_);refine gS Tryz.func74 #[.int .i64 (rd x11_3 x13_3),.int .i64 a1_1,.int .i64 x13_3] ?_
          with_reducible refine (spec_SmallBack.calls k3 (rd x11_3 x13_3) a1_1 x13_3 t834 _ A49.out).mono ?_
          rintro e w' ⟨rfl,⟨nd,rfl⟩⟩;refine ⟨_,rfl,?_⟩;have p50:0≤(x13_3:Int):=od;have q50:(x13_3:Int) < ((x11_3.length:Int):Int):=od;obtain ⟨go50,co50,eo50,gb50,gl50,cl50,HG50⟩:=Kd.R_form HO_11.out (by omega);(first | cases eo50|(injection eo50 with ea_ en_ ec_;(first | subst ea_|(injection ea_ with ea_;subst ea_));subst ec_;clear en_))
          have GB50:=am gb50;have GG50:=am HG50;clear gb50 gl50 HG50;(first | simp only [add_plain] at hx833_0 | skip)
          obtain ⟨hx50_0,hf50_0⟩:=Kd.R_celln 0 HO_11.out (x13_3:Int) p50 q50;replace p50:=eq_true p50;replace q50:=eq_true q50;have HP53:=Kd.R_putn HO_11.out (x13_3:Int) t834;rw [← Ny835.out] at HP53;have HQ53:=am HP53;clear HP53;refine hK.out _ _ ⟨bc BK805 0,bc BK805 1,bc BK805 2,bc BK805 3,hHeld.2.2.2.2⟩ (fun hHeld=>?_);clear hK K;refine nm ?_;refine pu 10 84 (ba 12 2047) ?_;refine last_ (i:=11) (N:=none) (ba 12 4095) rfl rfl (one_of HT_.out (by kernel_rfl)) (by decide) (fun K hK=>?_);refine sk ?_;refine hK.out _ _ ?_;clear hK K;refine done_ (done_of HT_.out (by kernel_rfl)) ?_;try go_wp2
          go_roundg k3;case measure=>have:=HJ2.out;have:=HK2.out;have:=HK3.out;omega
          case rel=>exact ⟨(y835),(wrap64 (x13_3 + 1)),rv,H',⟨by have:=HJ2.out;have:=HK2.out;have:=HK3.out;omega⟩,(ra (Kd.R_mono (Kd.R_far (p:=⟨go50,(x13_3:Int).toNat,none⟩) (Kd.R_mono HO_9.out (fun k_ hk=>(⟨hk,fun e_=>hk (by rw [e_];rfl)⟩:_∧k_≠go50))) (fun _ hk=>hk.2) (.int .i64 t834)) (fun _ hk=>hk.1))),(ra HQ53.out),⟨by (with_reducible repeat (first | refine blk_drewN ?_ _ | refine blk_drew ?_ | refine blk_alloc ?_ _));refine blk_far ?_ (by have h_:=Kd.R_ne HO_11.out BK805.out (by decide);intro e_;exact h_ (by rw [e_];rfl)) _;(with_reducible repeat (first | refine blk_drewN ?_ _ | refine blk_drew ?_ | refine blk_alloc ?_ _));exact BK805.out⟩,bh HB⟩
def spec_l13Dots.l0:Nat→List Int→Int→Option (Bool)
 | 0,_,_=>none
 | k + 1,x0,x3=>if x3 < 64 then (if 0≤x3 then (if x3 < (x0.length:Int) then ((spec_l01In.f (rd x0 x3) 0 255).bind fun t842=>(if t842=true then (spec_l13Dots.l0 k x0 (wrap64 (x3 + 1))) else (some false))) else (none)) else (none)) else (some true)
def spec_l13Dots.f (k:Nat) (l0:List Int):Option (Bool):=if (l0.length:Int)=64 then (spec_l13Dots.l0 k l0 0) else (some false)
theorem spec_l13Dots.calls (k:Nat) (A0:Option Addr) (c0:Nat) (l0:List Int) (r:Bool) (w:World) (hr0:Kd.C (Kd.int .i64) w A0 l0.length l0) (hc0:l0.length≤c0) (h:spec_l13Dots.f k l0=some r) :
  Calls Tryz.prog 76 #[.slice A0 l0.length c0] w fun e w'=>e=.returned (.bool r)∧Drawn0 w w':=by
 have HR0:=am hr0;have HC0:=am hc0;clear hr0 hc0;have H:=h;clear h;unfold spec_l13Dots.f at H;replace H:=ife H;rcases H with ⟨-,c2b0,c2b1,H⟩ | ⟨c2,c2b0,c2b1,H⟩;rotate_left
 ·obtain rfl:=sj H;go_enter Tryz.func76,Tryz.ntmps76;go_wp2;go_ret;exact ⟨rv,dr⟩
 have H':=am H;clear H;go_enter Tryz.func76,Tryz.ntmps76;go_wp2;go_loopg [3] k (fun kq v3 w'=>∃ (x3_1:Int),v3=.int .i64 x3_1∧Aside0 (spec_l13Dots.l0 kq l0 x3_1=some r)∧Aside0 (kq≤k)∧Drawn0 w w')
 case atStart=>exact ⟨(0),rv,H',⟨Nat.le_refl _⟩,dr⟩
 case round =>
  clear H';obtain ⟨x3_1,rfl,HA,HK1,⟨m1,rfl⟩⟩:=hrel;cases gk with
  | zero=>exact absurd HA.out (by simp [spec_l13Dots.l0])
  | succ k1 =>
   have H:=HA.out;clear HA;simp only [spec_l13Dots.l0] at H;replace H:=ifd H;rcases H with ⟨c3b0,H⟩ | ⟨c3b0,H⟩;rotate_left
   ·obtain rfl:=sj H;go_wp2;go_ret;exact ⟨rv,dr⟩
   replace H:=ifN H;obtain ⟨c4b0,H⟩:=H;replace H:=ifN H;obtain ⟨c5b0,H⟩:=H;replace H:=bnd H;obtain ⟨t842,A6,H⟩:=H;replace H:=ifb H;rcases H with ⟨rfl,H⟩ | ⟨rfl,H⟩
   ·have H':=am H;clear H;have p841:0≤(x3_1:Int):=od;have q841:x3_1 < (l0.length:Int):=od;obtain ⟨ad841,e841,hx841_0⟩:=Kd.at_int HR0.out x3_1 p841 q841;cases e841;replace p841:=eq_true p841;replace q841:=eq_true q841;go_wp2_with (first|((with_reducible refine gc 23 ?_);refine gD (some 15) Tryz.func23 _ (spec_l01In.calls _ _ _ _ _ A6.out) ?_;intro nd));go_roundg k1;case measure=>have:=HK1.out;omega
    case rel=>exact ⟨(wrap64 (x3_1 + 1)),rv,H',⟨by have:=HK1.out;omega⟩,dr⟩
   ·obtain rfl:=sj H;have p841:0≤(x3_1:Int):=od;have q841:x3_1 < (l0.length:Int):=od;obtain ⟨ad841,e841,hx841_0⟩:=Kd.at_int HR0.out x3_1 p841 q841;cases e841;replace p841:=eq_true p841;replace q841:=eq_true q841;go_wp2_with (first|((with_reducible refine gc 23 ?_);refine gD (some 15) Tryz.func23 _ (spec_l01In.calls _ _ _ _ _ A6.out) ?_;intro nd));go_ret;exact ⟨rv,dr⟩
mutual
def spec_Joined.j0:Nat→List Int→List Int→List Int→Bool→Option (List Int)
 | 0,_,_,_,_=>none
 | k + 1,x0,x1,x5,x15=>if x15=true then (some x5) else (spec_Joined.l0 k x0 x1 x5 0)
def spec_Joined.l0:Nat→List Int→List Int→List Int→Int→Option (List Int)
 | 0,_,_,_,_=>none
 | k + 1,x0,x1,x5,x6=>if x6 < 64 then (if 0≤x6 then (if x6 < (x0.length:Int) then (if x6 < (x1.length:Int) then ((spec_Brought.f k (wrap64 ((rd x0 x6) + (rd x1 x6))) 0 255).bind fun t850=>(if x5.length < 17592186044416 then (spec_Joined.l0 k x0 x1 (x5 ++ [t850]) (wrap64 (x6 + 1))) else (none))) else (none)) else (none)) else (none)) else (some x5)
end
def spec_Joined.f (k:Nat) (l0:List Int) (l1:List Int):Option (List Int):=(some (([]:List Int):List Int)).bind fun y843=>((spec_l13Dots.f k l0).bind fun t846=>(if t846=true then ((spec_l09All.f k l1 64 10000000).bind fun t847=>(spec_Joined.j0 k l0 l1 y843 (!t847))) else (spec_Joined.j0 k l0 l1 y843 true)))
def spec_Joined.T7:Bool × List (List Nat × List Nat):=(true,[([],[]),([],[]),([],[]),([1,2],[1,2]),([3],[3]),([],[]),([],[]),([5,6],[5,6]),([7],[7]),([4,8],[4,8]),([9],[9]),([10],[10]),([0,11,10],[0,11]),([12,12,0,1,2,3,4,5,6,7,8,9,10,11,12],[0,12])])
def spec_Joined.B7:List Nat:=[0,0,0,6,14,0,0,96,224,510,1022,2046,4095,8191]
theorem spec_Joined.tab7:rtab .any (opsOf Tryz.f50 7)=spec_Joined.T7:=by kernel_rfl
theorem spec_Joined.bits7:waitsOk spec_Joined.T7.2 spec_Joined.B7=true:=by kernel_rfl
theorem spec_Joined.calls (k:Nat) (A0:Option Addr) (c0:Nat) (l0:List Int) (A1:Option Addr) (c1:Nat) (l1:List Int) (r:List Int) (w:World) (hr0:Kd.C (Kd.int .i64) w A0 l0.length l0) (hc0:l0.length≤c0) (hr1:Kd.C (Kd.int .i64) w A1 l1.length l1) (hc1:l1.length≤c1) (h:spec_Joined.f k l0 l1=some r) :
  Calls Tryz.prog 50 #[.slice A0 l0.length c0,.slice A1 l1.length c1] w fun e w'=>∃ v0_:Value,e=.returned (v0_)∧Kd.R (Kd.int .i64) 3 w' w.heap.size (fun _=>True) v0_ r∧Below w.heap.size w w':=by
 have HR0:=am hr0;have HC0:=am hc0;clear hr0 hc0;have HR1:=am hr1;have HC1:=am hc1;clear hr1 hc1;have HB:=am (Below.refl w.heap.size w);have H:=h;clear h;unfold spec_Joined.f at H;replace H:=yl H;obtain ⟨y843,Ny843,H⟩:=H;have HC3:=am H;clear H;go_enter Tryz.func50,Tryz.ntmps50;go_upto_region 2 with (first|((with_reducible refine gd 7 ?_);refine Kd.R_lit (Kd.int .i64) _ 3 ?hg (N:=7) ?hd (xs:=([]:List Int)) (inner:=[]) (ok:=fun _=>True) (okp:=fun _=>True) ?hr ?hp (fun _ hk=>hk) trivial (Below.refl _ _) (Nat.le_refl _) (by simp) ?_;(case hd=>rfl);(case hg=>rfl);(case hr=>first|(go_simp;done)|(go_simp;rfl));(case hp=>exact (Reps.none _ _));intro v844 w4 ho5 hb hg_ hnew_;clear hg_ hnew_;(first | rw [← Ny843.out] at ho5|(simp only [Int.reduceToNat] at ho5;rw [← Ny843.out] at ho5));have HO845:=am (Kd.R_lower ho5 (below_size (bo HB)));replace HB:=bs HB hb;clear hb ho5))
 (try simp only [Act.put,List.setIfInBounds_toArray,List.set_cons_zero,List.set_cons_succ])
 go_cut [15] (fun v15 wc=>∃ (kq:Nat) (x15_2:Bool),v15=.bool x15_2∧Aside0 (spec_Joined.j0 kq l0 l1 y843 x15_2=some r)∧Aside0 (kq≤k)∧Aside0 (Kd.R (Kd.int .i64) 3 wc w.heap.size (fun _=>True) v844 y843)∧Aside0 (Below w.heap.size w wc))
 case first =>
  have H:=HC3.out;clear HC3;replace H:=bnd H;obtain ⟨t846,A6,H⟩:=H;replace H:=ifb H;rcases H with ⟨rfl,H⟩ | ⟨rfl,H⟩
  ·replace H:=bnd H;obtain ⟨t847,A8,H⟩:=H;have H':=am H;clear H;go_wp2_with (first|((with_reducible refine gc 76 ?_);refine gD (some 9) Tryz.func76 _ (spec_l13Dots.calls k _ _ _ _ _ (ca (Kd.C_below HR0.out HB.out)) HC0.out A6.out) ?_;intro nd)|(go_at_call 69;(with_reducible refine (spec_l09All.calls k _ _ l1 64 10000000 t847 _ ?side1 ?side2 A8.out).mono ?_);(case side1=>exact ca (Kd.C_below HR1.out (bo HB)));(case side2=>exact HC1.out);rintro e w' ⟨rfl,⟨nd,rfl⟩⟩));go_meet;case rel=>exact ⟨_,(!t847),rv,H',om,(ra HO845.out),bh HB⟩
  ·have H':=am H;clear H;go_wp2_with (first|((with_reducible refine gc 76 ?_);refine gD (some 9) Tryz.func76 _ (spec_l13Dots.calls k _ _ _ _ _ (ca (Kd.C_below HR0.out HB.out)) HC0.out A6.out) ?_;intro nd));go_meet;case rel=>exact ⟨_,(true),rv,H',om,(ra HO845.out),bh HB⟩
 case rest =>
  clear HC3;obtain ⟨kq,x15_2,rfl,HA,HJ2,HO_5,HB⟩:=hcut;cases kq with
  | zero=>exact absurd HA.out (by simp [spec_Joined.j0])
  | succ kj2 =>
   have H:=HA.out;clear HA;simp only [spec_Joined.j0] at H;replace H:=ifb H;rcases H with ⟨rfl,H⟩ | ⟨rfl,H⟩
   ·obtain rfl:=sj H;go_wp2;go_ret;exact ⟨_,re,ro HO_5.out,bo HB⟩
   ·have H':=am H;clear H;go_wp2;go_loopg [5,6] kj2 (fun kq v5 v6 w'=>∃ (x5_2:List Int) (x6_2:Int),v6=.int .i64 x6_2∧Aside0 (spec_Joined.l0 kq l0 l1 x5_2 x6_2=some r)∧Aside0 (kq≤kj2)∧Aside0 (Kd.R (Kd.int .i64) 3 w' w.heap.size (fun _=>True) v5 x5_2)∧Aside0 (Below w.heap.size w w'))
    case atStart=>exact ⟨(y843),(0),rv,H',⟨Nat.le_refl _⟩,(ra HO_5.out),bh HB⟩
    case round =>
     clear H';obtain ⟨x5_2,x6_2,rfl,HA,HK2,HO_5,HB⟩:=hrel;cases gk with
     | zero=>exact absurd HA.out (by simp [spec_Joined.l0])
     | succ k2 =>
      have H:=HA.out;clear HA;simp only [spec_Joined.l0] at H;replace H:=ifd H;rcases H with ⟨c10b0,H⟩ | ⟨c10b0,H⟩;rotate_left
      ·obtain rfl:=sj H;go_wp2;go_ret;exact ⟨_,re,ro HO_5.out,bo HB⟩
      replace H:=ifN H;obtain ⟨c11b0,H⟩:=H;replace H:=ifN H;obtain ⟨c12b0,H⟩:=H;replace H:=ifN H;obtain ⟨c13b0,H⟩:=H;replace H:=bnd H;obtain ⟨t850,A14,H⟩:=H;replace H:=ifn H;obtain ⟨c15,H⟩:=H;have LMc15:=am c15;clear c15;obtain ⟨y851,hy851⟩:∃ y_:List Int,y_=(x5_2 ++ [t850]):=⟨_,rfl⟩
      replace H:(spec_Joined.l0 k2 l0 l1 y851 (wrap64 (x6_2 + 1)))=some r:=by subst hy851;exact H
      have Ny851:=am hy851;clear hy851;have H':=am H;clear H;try go_wp2
      replace HO_5:=am (Kd.R_drew HO_5.out);replace HB:=am (below_drew1 HB.out);have p848:0≤(x6_2:Int):=od;have q848:x6_2 < (l0.length:Int):=od;obtain ⟨ad848,e848,hx848_0⟩:=Kd.at_int HR0.out x6_2 p848 q848;have hw848_0:=hx848_0;cases e848;replace hx848_0:=(HB.out.cell (World.block_lt_of_cell? w _ hx848_0)).trans hx848_0;replace p848:=eq_true p848;replace q848:=eq_true q848;have p849:0≤(x6_2:Int):=od;have q849:x6_2 < (l1.length:Int):=od;obtain ⟨ad849,e849,hx849_0⟩:=Kd.at_int HR1.out x6_2 p849 q849;have hw849_0:=hx849_0;cases e849;replace hx849_0:=(HB.out.cell (World.block_lt_of_cell? w _ hx849_0)).trans hx849_0;replace p849:=eq_true p849;replace q849:=eq_true q849;refine start_ (n:=14) (S:=fun w'=>w'.cell? (ad848.add (x6_2).toNat)=some (.int .i64 (rd l0 x6_2))∧w'.cell? (ad849.add (x6_2).toNat)=some (.int .i64 (rd l1 x6_2))) (ds:=[]) (ba 14 0) (by kernel_rfl) rfl rfl ⟨(hcl HB hw848_0),(hcl HB hw849_0)⟩ (fun hHeld=>?_);refine with_tabW spec_Joined.tab7 spec_Joined.bits7 (fun HT_ HW_=>?_);generalize wr.drew=w16 at HO_5 HB hx848_0 hx849_0 hHeld ⊢;refine pu 0 21 (ba 14 1) ?_;refine pu 1 22 (ba 14 3) ?_;refine pu 2 23 (ba 14 7) ?_;refine pu 3 24 (ba 14 15) ?_;refine pu 5 26 (ba 14 47) ?_;refine pu 6 27 (ba 14 111) ?_;refine pu 7 28 (ba 14 239) ?_;refine tk 4 25 (ba 14 255) hHeld ?_;refine tk 8 29 (ba 14 511) hHeld ?_;refine pu 9 30 (ba 14 1023) ?_;refine on 10 31 (ba 14 2047) (fun K hK=>?_);refine gS Tryz.func77 #[.int .i64 (wrap64 ((rd l0 x6_2) + (rd l1 x6_2))),.int .i64 0,.int .i64 255] ?_
      with_reducible refine (spec_Brought.calls k2 (wrap64 ((rd l0 x6_2) + (rd l1 x6_2))) 0 255 t850 _ A14.out).mono ?_
      rintro e w' ⟨rfl,⟨nd,rfl⟩⟩;refine ⟨_,rfl,?_⟩;refine hK.out _ _ ⟨(hcl HB hw848_0),(hcl HB hw849_0)⟩ (fun hHeld=>?_);clear hK K;refine nm ?_;refine on 11 32 (ba 14 4095) (fun K hK=>?_);refine value_ (w1:=?_) (v:=?_) (by rfl) rfl ?_ ?_;rotate_left 2
      ·go_simp
       constructor
       ·rfl
       ·rfl
      refine hK.out _ _ ⟨(World.cell?_alloc_lt _ _ _ (World.block_lt_of_cell? _ _ ((hcl HB hw848_0)))).trans ((hcl HB hw848_0)),(World.cell?_alloc_lt _ _ _ (World.block_lt_of_cell? _ _ ((hcl HB hw849_0)))).trans ((hcl HB hw849_0))⟩ (fun hHeld=>?_);clear hK K;refine nm ?_;refine on 12 33 (ba 14 8191) (fun K hK=>?_);refine Kd.R_append_step (Kd.int .i64) (w0:=w) w.heap.size (by rfl) (.tmp 21) (.tmp 32) 33 3 (.int .i64 0) 8 rfl Tryz.underlying33 info3 rfl (by decide) (by omega) u5 x5_2 t850 [.int .i64 t850] (fun _=>True) (fun _=>False) rfl rfl ?aP (fun _ hk=>hk.elim) ?aF ?aO ?aB ?aS ?aL ?_;(case aP=>exact rfl)
      (case aB=>exact (bo HB))
      (case aF=>exact (fun _ _=>trivial))
      (case aO=>exact (ro HO_5.out))
      (case aS=>exact (below_size (bo HB)))
      (case aL=>have:=LMc15.out;omega)
      intro v852 w17 ho hb hg hat;rw [← Ny851.out] at ho;have HO853:=am (ho);replace HB:=am (hb);clear HO_5;clear ho hb hg hat;refine hK.out _ _ ⟨(hcl HB hw848_0),(hcl HB hw849_0)⟩ (fun hHeld=>?_);clear hK K;refine nm ?_;refine pu 13 5 (ba 14 16383) ?_;refine done_ (done_of HT_.out (by kernel_rfl)) ?_;try go_wp2
      go_roundg k2;case measure=>have:=HJ2.out;have:=HK2.out;omega
      case rel=>exact ⟨(y851),(wrap64 (x6_2 + 1)),rv,H',⟨by have:=HJ2.out;have:=HK2.out;omega⟩,(ra HO853.out),bh HB⟩
mutual
def spec_l13Side.j0:Nat→List Int→Bool→Option (Bool)
 | 0,_,_=>none
 | k + 1,x0,x11=>if x11=true then (some false) else (spec_l13Side.l0 k x0 0)
def spec_l13Side.l0:Nat→List Int→Int→Option (Bool)
 | 0,_,_=>none
 | k + 1,x0,x3=>if x3 < (x0.length:Int) then (if 0≤x3 then ((spec_l01In.f (rd x0 x3) 0 255).bind fun t855=>(if t855=true then (spec_l13Side.l0 k x0 (wrap64 (x3 + 1))) else (some false))) else (none)) else (some true)
end
def spec_l13Side.f (k:Nat) (l0:List Int):Option (Bool):=if (l0.length:Int)=0 then (spec_l13Side.j0 k l0 false) else (spec_l13Side.j0 k l0 ((l0.length:Int) != 8))
theorem spec_l13Side.calls (k:Nat) (A0:Option Addr) (c0:Nat) (l0:List Int) (r:Bool) (w:World) (hr0:Kd.C (Kd.int .i64) w A0 l0.length l0) (hc0:l0.length≤c0) (h:spec_l13Side.f k l0=some r) :
  Calls Tryz.prog 97 #[.slice A0 l0.length c0] w fun e w'=>e=.returned (.bool r)∧Drawn0 w w':=by
 have HR0:=am hr0;have HC0:=am hc0;clear hr0 hc0;have H:=h;clear h;unfold spec_l13Side.f at H;have HC2:=am H;clear H;go_enter Tryz.func97,Tryz.ntmps97;go_upto_region 1 with (fail)
 go_cut [11] (fun v11 wc=>∃ (kq:Nat) (x11_1:Bool),v11=.bool x11_1∧Aside0 (spec_l13Side.j0 kq l0 x11_1=some r)∧Aside0 (kq≤k)∧Drawn0 w wc)
 case first =>
  have H:=HC2.out;clear HC2;replace H:=ife H;rcases H with ⟨-,c3b0,c3b1,H⟩ | ⟨c3,c3b0,c3b1,H⟩
  ·(first | rw [c3b0]|(simp only [i64_w,i32_w];rw [c3b0]) | skip)
   have H':=am H;clear H;go_wp2;go_meet;case rel=>exact ⟨_,(false),rv,H',om,dr⟩
  ·have c3b2:¬ (l0=[]):=fun h_=>c3 (by rw [h_];rfl)
   (first | rw [c3b0]|(simp only [i64_w,i32_w];rw [c3b0]) | skip)
   have H':=am H;clear H;go_wp2;go_meet;case rel=>exact ⟨_,(((l0.length:Int) != 8)),rv,H',om,dr⟩
 case rest =>
  clear HC2;obtain ⟨kq,x11_1,rfl,HA,HJ1,⟨mc1,rfl⟩⟩:=hcut;cases kq with
  | zero=>exact absurd HA.out (by simp [spec_l13Side.j0])
  | succ kj1 =>
   have H:=HA.out;clear HA;simp only [spec_l13Side.j0] at H;replace H:=ifb H;rcases H with ⟨rfl,H⟩ | ⟨rfl,H⟩
   ·obtain rfl:=sj H;go_wp2;go_ret;exact ⟨rv,dr⟩
   ·have H':=am H;clear H;go_wp2;go_loopg [3] kj1 (fun kq v3 w'=>∃ (x3_2:Int),v3=.int .i64 x3_2∧Aside0 (spec_l13Side.l0 kq l0 x3_2=some r)∧Aside0 (kq≤kj1)∧Drawn0 w w')
    case atStart=>exact ⟨(0),rv,H',⟨Nat.le_refl _⟩,dr⟩
    case round =>
     clear H';obtain ⟨x3_2,rfl,HA,HK2,⟨m2,rfl⟩⟩:=hrel;cases gk with
     | zero=>exact absurd HA.out (by simp [spec_l13Side.l0])
     | succ k2 =>
      have H:=HA.out;clear HA;simp only [spec_l13Side.l0] at H;replace H:=ifd H;rcases H with ⟨c5b0,H⟩ | ⟨c5b0,H⟩;rotate_left
      ·obtain rfl:=sj H;go_wp2;go_ret;exact ⟨rv,dr⟩
      replace H:=ifN H;obtain ⟨c6b0,H⟩:=H;replace H:=bnd H;obtain ⟨t855,A7,H⟩:=H;replace H:=ifb H;rcases H with ⟨rfl,H⟩ | ⟨rfl,H⟩
      ·have H':=am H;clear H;have p854:0≤(x3_2:Int):=od;have q854:x3_2 < (l0.length:Int):=od;obtain ⟨ad854,e854,hx854_0⟩:=Kd.at_int HR0.out x3_2 p854 q854;cases e854;replace p854:=eq_true p854;replace q854:=eq_true q854;go_wp2_with (first|((with_reducible refine gc 23 ?_);refine gD (some 22) Tryz.func23 _ (spec_l01In.calls _ _ _ _ _ A7.out) ?_;intro nd));go_roundg k2;case measure=>have:=HJ1.out;have:=HK2.out;omega
       case rel=>exact ⟨(wrap64 (x3_2 + 1)),rv,H',⟨by have:=HJ1.out;have:=HK2.out;omega⟩,dr⟩
      ·obtain rfl:=sj H;have p854:0≤(x3_2:Int):=od;have q854:x3_2 < (l0.length:Int):=od;obtain ⟨ad854,e854,hx854_0⟩:=Kd.at_int HR0.out x3_2 p854 q854;cases e854;replace p854:=eq_true p854;replace q854:=eq_true q854;go_wp2_with (first|((with_reducible refine gc 23 ?_);refine gD (some 22) Tryz.func23 _ (spec_l01In.calls _ _ _ _ _ A7.out) ?_;intro nd));go_ret;exact ⟨rv,dr⟩
def spec_EdgesOk.f (k:Nat) (l0_0:List Int) (l0_1:List Int) (a0_2:Int):Option (Bool):=(spec_l13Side.f k l0_0).bind fun t857=>(if t857=true then ((spec_l13Side.f k l0_1).bind fun t858=>(if t858=true then ((spec_l01In.f a0_2 (-1) 255).bind fun t859=>(some t859)) else (some false))) else (some false))
theorem spec_EdgesOk.calls (k:Nat) (A0_0:Option Addr) (c0_0:Nat) (l0_0:List Int) (A0_1:Option Addr) (c0_1:Nat) (l0_1:List Int) (a0_2:Int) (r:Bool) (w:World) (hr0_0:Kd.C (Kd.int .i64) w A0_0 l0_0.length l0_0) (hc0_0:l0_0.length≤c0_0) (hr0_1:Kd.C (Kd.int .i64) w A0_1 l0_1.length l0_1) (hc0_1:l0_1.length≤c0_1) (h:spec_EdgesOk.f k l0_0 l0_1 a0_2=some r) :
  Calls Tryz.prog 78 #[.agg #[.slice A0_0 l0_0.length c0_0,.slice A0_1 l0_1.length c0_1,.int .i64 a0_2]] w fun e w'=>e=.returned (.bool r)∧Below w.heap.size w w':=by
 have hu69:=Tryz.underlying69;have HR0_0:=am hr0_0;have HC0_0:=am hc0_0;clear hr0_0 hc0_0;have HR0_1:=am hr0_1;have HC0_1:=am hc0_1;clear hr0_1 hc0_1;have HB:=am (Below.refl w.heap.size w);have H:=h;clear h;unfold spec_EdgesOk.f at H;replace H:=bnd H;obtain ⟨t857,A2,H⟩:=H;replace H:=ifb H;rcases H with ⟨rfl,H⟩ | ⟨rfl,H⟩;rotate_left
 ·obtain rfl:=sj H;go_enter Tryz.func78,Tryz.ntmps78;go_wp2_with (first|((with_reducible refine gd 1 ?_);refine bx 1 #[.slice A0_0 l0_0.length c0_0,.slice A0_1 l0_1.length c0_1,.int .i64 a0_2] 69 ?_;intro gb856 hg w11 BK856 hb;have GE856:=ge HB hg;replace HB:=bs HB hb;clear hb hg;obtain ⟨z12a,z12b,z12c,z12p,z12q,z12r⟩:=cl3 BK856)|((with_reducible refine gc 97 ?_);refine gD (some 5) Tryz.func97 _ (spec_l13Side.calls k _ _ _ _ _ (ca (Kd.C_below HR0_0.out HB.out)) HC0_0.out A2.out) ?_;intro nd));go_ret;exact ⟨re,bo HB⟩
 replace H:=bnd H;obtain ⟨t858,A4,H⟩:=H;replace H:=ifb H;rcases H with ⟨rfl,H⟩ | ⟨rfl,H⟩
 ·replace H:=bnd H;obtain ⟨t859,A6,H⟩:=H;obtain rfl:=sj H;go_enter Tryz.func78,Tryz.ntmps78;go_wp2_with (first|((with_reducible refine gd 1 ?_);refine bx 1 #[.slice A0_0 l0_0.length c0_0,.slice A0_1 l0_1.length c0_1,.int .i64 a0_2] 69 ?_;intro gb856 hg w7 BK856 hb;have GE856:=ge HB hg;replace HB:=bs HB hb;clear hb hg;obtain ⟨z8a,z8b,z8c,z8p,z8q,z8r⟩:=cl3 BK856)|((with_reducible refine gc 97 ?_);refine gD (some 5) Tryz.func97 _ (spec_l13Side.calls k _ _ _ _ _ (ca (Kd.C_below HR0_0.out HB.out)) HC0_0.out A2.out) ?_;intro nd)|(go_at_call 97;(with_reducible refine (spec_l13Side.calls k _ _ l0_1 true _ ?side1 ?side2 A4.out).mono ?_);(case side1=>exact ca (Kd.C_below HR0_1.out (bo HB)));(case side2=>exact HC0_1.out);rintro e w' ⟨rfl,⟨nd,rfl⟩⟩)|(go_at_call 23;(with_reducible refine (spec_l01In.calls a0_2 (-1) 255 t859 _ A6.out).mono ?_);rintro e w' ⟨rfl,⟨nd,rfl⟩⟩));go_ret;exact ⟨re,bo HB⟩
 ·obtain rfl:=sj H;go_enter Tryz.func78,Tryz.ntmps78;go_wp2_with (first|((with_reducible refine gd 1 ?_);refine bx 1 #[.slice A0_0 l0_0.length c0_0,.slice A0_1 l0_1.length c0_1,.int .i64 a0_2] 69 ?_;intro gb856 hg w9 BK856 hb;have GE856:=ge HB hg;replace HB:=bs HB hb;clear hb hg;obtain ⟨z10a,z10b,z10c,z10p,z10q,z10r⟩:=cl3 BK856)|((with_reducible refine gc 97 ?_);refine gD (some 5) Tryz.func97 _ (spec_l13Side.calls k _ _ _ _ _ (ca (Kd.C_below HR0_0.out HB.out)) HC0_0.out A2.out) ?_;intro nd)|(go_at_call 97;(with_reducible refine (spec_l13Side.calls k _ _ l0_1 false _ ?side1 ?side2 A4.out).mono ?_);(case side1=>exact ca (Kd.C_below HR0_1.out (bo HB)));(case side2=>exact HC0_1.out);rintro e w' ⟨rfl,⟨nd,rfl⟩⟩));go_ret;exact ⟨re,bo HB⟩
def spec_l13Filled.f (l0:List Int) (a1:Int):Option (Int):=if (l0.length:Int)=0 then (some 128) else (if 0≤a1 then (if a1 < (l0.length:Int) then (some (rd l0 a1)) else (none)) else (none))
theorem spec_l13Filled.calls (A0:Option Addr) (c0:Nat) (l0:List Int) (a1:Int) (r:Int) (w:World) (hr0:Kd.C (Kd.int .i64) w A0 l0.length l0) (hc0:l0.length≤c0) (h:spec_l13Filled.f l0 a1=some r) :
  Calls Tryz.prog 79 #[.slice A0 l0.length c0,.int .i64 a1] w fun e w'=>e=.returned (.int .i64 r)∧Drawn0 w w':=by
 have HR0:=am hr0;have HC0:=am hc0;clear hr0 hc0;have H:=h;clear h;unfold spec_l13Filled.f at H;replace H:=ife H;rcases H with ⟨-,c3b0,c3b1,H⟩ | ⟨c3,c3b0,c3b1,H⟩
 ·obtain rfl:=sj H;go_enter Tryz.func79,Tryz.ntmps79;go_wp2;go_ret;exact ⟨rv,dr⟩
 ·have c3b2:¬ (l0=[]):=fun h_=>c3 (by rw [h_];rfl)
  by_cases c4:0≤a1;rotate_left
  ·rw [if_neg c4] at H;cases H
  rw [if_pos c4] at H;have c4b0:=decide_eq_true c4;clear c4;by_cases c5:a1 < (l0.length:Int)
  ·rw [if_pos c5] at H;have c5b0:=decide_eq_true c5;clear c5;obtain rfl:=sj H;have p860:0≤(a1:Int):=od;have q860:a1 < (l0.length:Int):=od;obtain ⟨ad860,e860,hx860_0⟩:=Kd.at_int HR0.out a1 p860 q860;cases e860;replace p860:=eq_true p860;replace q860:=eq_true q860;go_enter Tryz.func79,Tryz.ntmps79;go_wp2;go_ret;exact ⟨rv,dr⟩
  ·rw [if_neg c5] at H;cases H
end Go.Proofs.YtdfekcelcdkjlaaGreat.QFnConfined
