/- Walks of what the law reaches. -/
import Derived.Test.YtdfekcelcdkjlaaGreatQFnConfinedx0
import Derived.Test.YtdfekcelcdkjlaaGreatQFnConfinedx5
namespace Go.Proofs.YtdfekcelcdkjlaaGreat.QFnConfined
open Go.RowKit Go.Proofs.YtdfekcelcdkjlaaGreatW.PrintWords Go.Proofs.YtdfekcelcdkjlaaGreatW.PrintLast Go.Proofs.YtdfekcelcdkjlaaGreatW.PrintMore Go.Proofs.YtdfekcelcdkjlaaGreatV
attribute [local go_sem] max2_int min2_int max_two min_two max_three min_three max_four min_four
set_option linter.unusedVariables false
set_option linter.unusedSimpArgs false
set_option maxHeartbeats 8000000
set_option maxRecDepth 100000
def spec_l12Within.f (a0_0:Int) (a0_1:Int) (a0_2:ByteArray) (a1:Int) (a2:Int) (a3:Int) (a4:Int):Option (Bool):=(spec_PicOk.f a0_0 a0_1 a0_2).bind fun t667=>(if t667=true then ((spec_l01In.f a3 1 a0_0).bind fun t668=>(if t668=true then ((spec_l01In.f a4 1 a0_1).bind fun t669=>(if t669=true then ((spec_l01In.f a1 0 (wrap64 (a0_0 - a3))).bind fun t670=>(if t670=true then ((spec_l01In.f a2 0 (wrap64 (a0_1 - a4))).bind fun t671=>(some t671)) else (some false))) else (some false))) else (some false))) else (some false))
theorem spec_l12Within.calls (a0_0:Int) (a0_1:Int) (a0_2:ByteArray) (a1:Int) (a2:Int) (a3:Int) (a4:Int) (r:Bool) (w:World) (h:spec_l12Within.f a0_0 a0_1 a0_2 a1 a2 a3 a4=some r) :
  Calls Tryz.prog 25 #[.agg #[.int .i64 a0_0,.int .i64 a0_1,.string a0_2],.int .i64 a1,.int .i64 a2,.int .i64 a3,.int .i64 a4] w fun e w'=>e=.returned (.bool r)∧Below w.heap.size w w':=by
 have hu25:=Tryz.underlying25;have HB:=am (Below.refl w.heap.size w);have H:=h;clear h;unfold spec_l12Within.f at H;replace H:=bnd H;obtain ⟨t667,A6,H⟩:=H;replace H:=ifb H;rcases H with ⟨rfl,H⟩ | ⟨rfl,H⟩;rotate_left
 ·obtain rfl:=sj H;go_enter Tryz.func25,Tryz.ntmps25;go_wp2_with (first|((with_reducible refine gd 5 ?_);refine bx 5 #[.int .i64 a0_0,.int .i64 a0_1,.string a0_2] 25 ?_;intro gb666 hg w31 BK666 hb;have GE666:=ge HB hg;replace HB:=bs HB hb;clear hb hg;obtain ⟨z32a,z32b,z32c,z32p,z32q,z32r⟩:=cl3 BK666)|((with_reducible refine gc 45 ?_);refine gB (some 12) Tryz.func45 _ (spec_PicOk.calls _ _ _ _ _ A6.out) ?_;intro w33 hb;replace BK666:=bb BK666 hb;replace HB:=bs HB hb));go_ret;exact ⟨re,bo HB⟩
 replace H:=bnd H;obtain ⟨t668,A8,H⟩:=H;replace H:=ifb H;rcases H with ⟨rfl,H⟩ | ⟨rfl,H⟩;rotate_left
 ·obtain rfl:=sj H;go_enter Tryz.func25,Tryz.ntmps25;go_wp2_with (first|((with_reducible refine gd 5 ?_);refine bx 5 #[.int .i64 a0_0,.int .i64 a0_1,.string a0_2] 25 ?_;intro gb666 hg w27 BK666 hb;have GE666:=ge HB hg;replace HB:=bs HB hb;clear hb hg;obtain ⟨z28a,z28b,z28c,z28p,z28q,z28r⟩:=cl3 BK666)|((with_reducible refine gc 45 ?_);refine gB (some 12) Tryz.func45 _ (spec_PicOk.calls _ _ _ _ _ A6.out) ?_;intro w29 hb;replace BK666:=bb BK666 hb;replace HB:=bs HB hb;obtain ⟨z30a,z30b,z30c,z30p,z30q,z30r⟩:=cl3 BK666)|(go_at_call 23;(with_reducible refine (spec_l01In.calls a3 1 a0_0 false _ A8.out).mono ?_);rintro e w' ⟨rfl,⟨nd,rfl⟩⟩));go_ret;exact ⟨re,bo HB⟩
 replace H:=bnd H;obtain ⟨t669,A10,H⟩:=H;replace H:=ifb H;rcases H with ⟨rfl,H⟩ | ⟨rfl,H⟩;rotate_left
 ·obtain rfl:=sj H;go_enter Tryz.func25,Tryz.ntmps25;go_wp2_with (first|((with_reducible refine gd 5 ?_);refine bx 5 #[.int .i64 a0_0,.int .i64 a0_1,.string a0_2] 25 ?_;intro gb666 hg w23 BK666 hb;have GE666:=ge HB hg;replace HB:=bs HB hb;clear hb hg;obtain ⟨z24a,z24b,z24c,z24p,z24q,z24r⟩:=cl3 BK666)|((with_reducible refine gc 45 ?_);refine gB (some 12) Tryz.func45 _ (spec_PicOk.calls _ _ _ _ _ A6.out) ?_;intro w25 hb;replace BK666:=bb BK666 hb;replace HB:=bs HB hb;obtain ⟨z26a,z26b,z26c,z26p,z26q,z26r⟩:=cl3 BK666)|(go_at_call 23;(with_reducible refine (spec_l01In.calls a3 1 a0_0 true _ A8.out).mono ?_);rintro e w' ⟨rfl,⟨nd,rfl⟩⟩)|(go_at_call 23;(with_reducible refine (spec_l01In.calls a4 1 a0_1 false _ A10.out).mono ?_);rintro e w' ⟨rfl,⟨nd,rfl⟩⟩));go_ret;exact ⟨re,bo HB⟩
 replace H:=bnd H;obtain ⟨t670,A12,H⟩:=H;replace H:=ifb H;rcases H with ⟨rfl,H⟩ | ⟨rfl,H⟩
 ·replace H:=bnd H;obtain ⟨t671,A14,H⟩:=H;obtain rfl:=sj H;go_enter Tryz.func25,Tryz.ntmps25;go_wp2_with (first|((with_reducible refine gd 5 ?_);refine bx 5 #[.int .i64 a0_0,.int .i64 a0_1,.string a0_2] 25 ?_;intro gb666 hg w15 BK666 hb;have GE666:=ge HB hg;replace HB:=bs HB hb;clear hb hg;obtain ⟨z16a,z16b,z16c,z16p,z16q,z16r⟩:=cl3 BK666)|((with_reducible refine gc 45 ?_);refine gB (some 12) Tryz.func45 _ (spec_PicOk.calls _ _ _ _ _ A6.out) ?_;intro w17 hb;replace BK666:=bb BK666 hb;replace HB:=bs HB hb;obtain ⟨z18a,z18b,z18c,z18p,z18q,z18r⟩:=cl3 BK666)|(go_at_call 23;(with_reducible refine (spec_l01In.calls a3 1 a0_0 true _ A8.out).mono ?_);rintro e w' ⟨rfl,⟨nd,rfl⟩⟩)|(go_at_call 23;(with_reducible refine (spec_l01In.calls a4 1 a0_1 true _ A10.out).mono ?_);rintro e w' ⟨rfl,⟨nd,rfl⟩⟩)|(go_at_call 23;(with_reducible refine (spec_l01In.calls a1 0 (wrap64 (a0_0 - a3)) true _ A12.out).mono ?_);rintro e w' ⟨rfl,⟨nd,rfl⟩⟩)|(go_at_call 23;(with_reducible refine (spec_l01In.calls a2 0 (wrap64 (a0_1 - a4)) t671 _ A14.out).mono ?_);rintro e w' ⟨rfl,⟨nd,rfl⟩⟩));go_ret;exact ⟨re,bo HB⟩
 ·obtain rfl:=sj H;go_enter Tryz.func25,Tryz.ntmps25;go_wp2_with (first|((with_reducible refine gd 5 ?_);refine bx 5 #[.int .i64 a0_0,.int .i64 a0_1,.string a0_2] 25 ?_;intro gb666 hg w19 BK666 hb;have GE666:=ge HB hg;replace HB:=bs HB hb;clear hb hg;obtain ⟨z20a,z20b,z20c,z20p,z20q,z20r⟩:=cl3 BK666)|((with_reducible refine gc 45 ?_);refine gB (some 12) Tryz.func45 _ (spec_PicOk.calls _ _ _ _ _ A6.out) ?_;intro w21 hb;replace BK666:=bb BK666 hb;replace HB:=bs HB hb;obtain ⟨z22a,z22b,z22c,z22p,z22q,z22r⟩:=cl3 BK666)|(go_at_call 23;(with_reducible refine (spec_l01In.calls a3 1 a0_0 true _ A8.out).mono ?_);rintro e w' ⟨rfl,⟨nd,rfl⟩⟩)|(go_at_call 23;(with_reducible refine (spec_l01In.calls a4 1 a0_1 true _ A10.out).mono ?_);rintro e w' ⟨rfl,⟨nd,rfl⟩⟩)|(go_at_call 23;(with_reducible refine (spec_l01In.calls a1 0 (wrap64 (a0_0 - a3)) false _ A12.out).mono ?_);rintro e w' ⟨rfl,⟨nd,rfl⟩⟩));go_ret;exact ⟨re,bo HB⟩
def spec_CutOf.l0:Nat→List Int→Int→Int→Int→ByteArray→Int→Int→Int→Int→Option (Int × Int × ByteArray × Bool)
 | 0,_,_,_,_,_,_,_,_,_=>none
 | k + 1,x6,x7,x673a,x673b,x673c,x674a,x674b,x674c,x674d=>if x7 < (wrap64 (x674b + x674d)) then (if 0≤(wrap64 ((wrap64 (x7 * x673a)) + x674a)) then (if (wrap64 ((wrap64 (x7 * x673a)) + x674a))≤(wrap64 ((wrap64 ((wrap64 (x7 * x673a)) + x674a)) + x674c)) then (if (wrap64 ((wrap64 ((wrap64 (x7 * x673a)) + x674a)) + x674c))≤(x673c.size:Int) then (if x6.length + (x673c.extract ((wrap64 ((wrap64 (x7 * x673a)) + x674a)):Int).toNat ((wrap64 ((wrap64 ((wrap64 (x7 * x673a)) + x674a)) + x674c)):Int).toNat).size < 140737488355328 then (spec_CutOf.l0 k (x6 ++ bytesOf (x673c.extract ((wrap64 ((wrap64 (x7 * x673a)) + x674a)):Int).toNat ((wrap64 ((wrap64 ((wrap64 (x7 * x673a)) + x674a)) + x674c)):Int).toNat)) (wrap64 (x7 + 1)) x673a x673b x673c x674a x674b x674c x674d) else (none)) else (none)) else (none)) else (none)) else (some (x674c,x674d,strOfNums x6,true))
def spec_CutOf.f (k:Nat) (a0_0:Int) (a0_1:Int) (a0_2:ByteArray) (a1_0:Int) (a1_1:Int) (a1_2:Int) (a1_3:Int):Option (Int × Int × ByteArray × Bool):=(spec_l12Within.f a0_0 a0_1 a0_2 a1_0 a1_1 a1_2 a1_3).bind fun t675=>(if t675=true then (spec_CutOf.l0 k (([]:List Int)) a1_1 a0_0 a0_1 a0_2 a1_0 a1_1 a1_2 a1_3) else (some (0,0,(⟨#[]⟩:ByteArray),false)))
theorem spec_CutOf.calls (k:Nat) (a0_0:Int) (a0_1:Int) (a0_2:ByteArray) (a1_0:Int) (a1_1:Int) (a1_2:Int) (a1_3:Int) (r1:Int) (r2:Int) (r3:ByteArray) (r4:Bool) (w:World) (h:spec_CutOf.f k a0_0 a0_1 a0_2 a1_0 a1_1 a1_2 a1_3=some (r1,r2,r3,r4)) :
  Calls Tryz.prog 26 #[.agg #[.int .i64 a0_0,.int .i64 a0_1,.string a0_2],.agg #[.int .i64 a1_0,.int .i64 a1_1,.int .i64 a1_2,.int .i64 a1_3]] w fun e w'=>e=.returned (.tuple #[.agg #[.int .i64 r1,.int .i64 r2,.string r3],.bool r4])∧Below w.heap.size w w':=by
 have hu25:=Tryz.underlying25;have hu27:=Tryz.underlying27;have HB:=am (Below.refl w.heap.size w);have H:=h;clear h;unfold spec_CutOf.f at H;replace H:=bnd H;obtain ⟨t675,A3,H⟩:=H;replace H:=ifb H;rcases H with ⟨rfl,H⟩ | ⟨rfl,H⟩;rotate_left
 ·obtain ⟨rfl,rfl,rfl,rfl⟩:=sj4 H;go_enter Tryz.func26,Tryz.ntmps26;go_wp2_with (first|((with_reducible refine gd 2 ?_);refine bx 2 #[.int .i64 a0_0,.int .i64 a0_1,.string a0_2] 25 ?_;intro gb672 hg w35 BK672 hb;have GE672:=ge HB hg;replace HB:=bs HB hb;clear hb hg)|((with_reducible refine gd 3 ?_);refine bx 3 #[.int .i64 a1_0,.int .i64 a1_1,.int .i64 a1_2,.int .i64 a1_3] 27 ?_;intro gb673 hg w36 BK673 hb;have GE673:=ge HB hg;have NB672_673:=n1 BK672 hg;have NB673_672:=n2 BK672 hg;replace BK672:=bb BK672 hb;replace HB:=bs HB hb;clear hb hg)|((with_reducible refine gd 4 ?_);refine bx 4 #[.int .i64 0,.int .i64 0,.string (⟨#[]⟩:ByteArray)] 25 ?_;intro gb674 hg w37 BK674 hb;have GE674:=ge HB hg;have NB672_674:=n1 BK672 hg;have NB674_672:=n2 BK672 hg;have NB673_674:=n1 BK673 hg;have NB674_673:=n2 BK673 hg;replace BK672:=bb BK672 hb;replace BK673:=bb BK673 hb;replace HB:=bs HB hb;clear hb hg;have ⟨hnb38,hnc38⟩:=nn NB672_673;have ⟨hnb39,hnc39⟩:=nn NB672_674;obtain ⟨z40a,z40b,z40c,z40p,z40q,z40r⟩:=cl3 BK672;have ⟨hnb41,hnc41⟩:=nn NB673_674;obtain ⟨z42a,z42b,z42c,z42d,z42p,z42q,z42r,z42s⟩:=cl4 BK673)|((with_reducible refine gc 25 ?_);refine gB (some 17) Tryz.func25 _ (spec_l12Within.calls _ _ _ _ _ _ _ _ _ A3.out) ?_;intro w43 hb;replace BK672:=bb BK672 hb;replace BK673:=bb BK673 hb;replace BK674:=bb BK674 hb;replace HB:=bs HB hb;obtain ⟨z44a,z44b,z44c,z44p,z44q,z44r⟩:=cl3 BK674));refine bodyPost_ret (results_ct rfl _ _ gb674 25 #[.int .i64 0,.int .i64 0,.string (⟨#[]⟩:ByteArray)] (0,0) _ rfl ?_ Tryz.underlying25 rfl (by kernel_rfl)) rfl ?_
  ·exact bP BK674
  exact ⟨re,bo HB⟩
 obtain ⟨y676,hy676⟩:∃ y_:List Int,y_=(([]:List Int)):=⟨_,rfl⟩
 replace H:(spec_CutOf.l0 k y676 a1_1 a0_0 a0_1 a0_2 a1_0 a1_1 a1_2 a1_3)=some (r1,r2,r3,r4):=by subst hy676;exact H
 have Ny676:=am hy676;clear hy676;have H':=am H;clear H;go_enter Tryz.func26,Tryz.ntmps26;go_wp2_with (first|((with_reducible refine gd 2 ?_);refine bx 2 #[.int .i64 a0_0,.int .i64 a0_1,.string a0_2] 25 ?_;intro gb672 hg w5 BK672 hb;have GE672:=ge HB hg;replace HB:=bs HB hb;clear hb hg)|((with_reducible refine gd 3 ?_);refine bx 3 #[.int .i64 a1_0,.int .i64 a1_1,.int .i64 a1_2,.int .i64 a1_3] 27 ?_;intro gb673 hg w6 BK673 hb;have GE673:=ge HB hg;have NB672_673:=n1 BK672 hg;have NB673_672:=n2 BK672 hg;replace BK672:=bb BK672 hb;replace HB:=bs HB hb;clear hb hg)|((with_reducible refine gd 4 ?_);refine bx 4 #[.int .i64 0,.int .i64 0,.string (⟨#[]⟩:ByteArray)] 25 ?_;intro gb674 hg w7 BK674 hb;have GE674:=ge HB hg;have NB672_674:=n1 BK672 hg;have NB674_672:=n2 BK672 hg;have NB673_674:=n1 BK673 hg;have NB674_673:=n2 BK673 hg;replace BK672:=bb BK672 hb;replace BK673:=bb BK673 hb;replace HB:=bs HB hb;clear hb hg;have ⟨hnb8,hnc8⟩:=nn NB672_673;have ⟨hnb9,hnc9⟩:=nn NB672_674;obtain ⟨z10a,z10b,z10c,z10p,z10q,z10r⟩:=cl3 BK672;have ⟨hnb11,hnc11⟩:=nn NB673_674;obtain ⟨z12a,z12b,z12c,z12d,z12p,z12q,z12r,z12s⟩:=cl4 BK673)|((with_reducible refine gc 25 ?_);refine gB (some 17) Tryz.func25 _ (spec_l12Within.calls _ _ _ _ _ _ _ _ _ A3.out) ?_;intro w13 hb;replace BK672:=bb BK672 hb;replace BK673:=bb BK673 hb;replace BK674:=bb BK674 hb;replace HB:=bs HB hb)|((with_reducible refine gd 20 ?_);refine Kd.R_lit (Kd.int .u8) _ 5 ?hg (N:=20) ?hd (xs:=([]:List Int)) (inner:=[]) (ok:=fun _=>True) (okp:=fun _=>True) ?hr ?hp (fun _ hk=>hk) trivial (Below.refl _ _) (Nat.le_refl _) (by simp) ?_;(case hd=>rfl);(case hg=>rfl);(case hr=>first|(go_simp;done)|(go_simp;rfl));(case hp=>exact (Reps.none _ _));intro v677 w14 ho15 hb hg_ hnew_;clear hg_ hnew_;(first | rw [← Ny676.out] at ho15|(simp only [Int.reduceToNat] at ho15;rw [← Ny676.out] at ho15));have HO678:=am (Kd.R_lower ho15 (below_size (bo HB)));replace BK672:=bb BK672 hb;replace BK673:=bb BK673 hb;replace BK674:=bb BK674 hb;replace HB:=bs HB hb;clear hb ho15;obtain ⟨z16a,z16b,z16c,z16d,z16p,z16q,z16r,z16s⟩:=cl4 BK673));go_loopg [6,7] k (fun kq v6 v7 w'=>∃ (x6_1:List Int) (x7_1:Int),v7=.int .i64 x7_1∧Aside0 (spec_CutOf.l0 kq x6_1 x7_1 a0_0 a0_1 a0_2 a1_0 a1_1 a1_2 a1_3=some (r1,r2,r3,r4))∧Aside0 (kq≤k)∧Aside0 (Kd.R (Kd.int .u8) 5 w' w.heap.size (fun _=>True) v6 x6_1)∧Aside0 (w'.heap[gb672]?=some (.cells #[.int .i64 a0_0,.int .i64 a0_1,.string a0_2] 25 (0,0)))∧Aside0 (w'.heap[gb673]?=some (.cells #[.int .i64 a1_0,.int .i64 a1_1,.int .i64 a1_2,.int .i64 a1_3] 27 (0,0)))∧Aside0 (w'.heap[gb674]?=some (.cells #[.int .i64 0,.int .i64 0,.string (⟨#[]⟩:ByteArray)] 25 (0,0)))∧Aside0 (Below w.heap.size w w'))
 case atStart=>exact ⟨(y676),(a1_1),rv,H',⟨Nat.le_refl _⟩,(ra HO678.out),bk BK672,bk BK673,bk BK674,bh HB⟩
 case round =>
  clear H';try clear z10a z10b z10c z10p z10q z10r
  try clear z12a z12b z12c z12d z12p z12q z12r z12s
  try clear z16a z16b z16c z16d z16p z16q z16r z16s
  obtain ⟨x6_1,x7_1,rfl,HA,HK1,HO_6,BK672,BK673,BK674,HB⟩:=hrel;cases gk with
  | zero=>exact absurd HA.out (by simp [spec_CutOf.l0])
  | succ k1 =>
   have H:=HA.out;clear HA;simp only [spec_CutOf.l0] at H;replace H:=ifd H;rcases H with ⟨c17b0,H⟩ | ⟨c17b0,H⟩;rotate_left
   ·obtain ⟨rfl,rfl,rfl,rfl⟩:=sj4 H;obtain ⟨z31a,z31b,z31c,z31d,z31p,z31q,z31r,z31s⟩:=cl4 BK673;have hcv32:=own_string (P:=Tryz.prog) Tryz.underlying22 Tryz.underlying5 Tryz.underlying9 (Kd.own_of_R HO_6.out);obtain ⟨z34a,z34b,z34c,z34p,z34q,z34r⟩:=cl3 BK674;go_wp2;refine bodyPost_ret (results_ct rfl _ _ gb674 25 #[.int .i64 a1_2,.int .i64 a1_3,.string (strOfNums x6_1)] (0,0) _ rfl ?_ Tryz.underlying25 rfl (by kernel_rfl)) rfl ?_
    ·exact bP BK674
    exact ⟨re,bo HB⟩
   obtain ⟨ji18,hji18⟩:∃ j_:Int,(wrap64 ((wrap64 (x7_1 * a0_0)) + a1_0))=j_:=⟨_,rfl⟩
   replace H:(if 0≤(ji18) then (if (ji18)≤(wrap64 ((ji18) + a1_2)) then (if (wrap64 ((ji18) + a1_2))≤(a0_2.size:Int) then (if x6_1.length + (a0_2.extract ((ji18):Int).toNat ((wrap64 ((ji18) + a1_2)):Int).toNat).size < 140737488355328 then (spec_CutOf.l0 k1 (x6_1 ++ bytesOf (a0_2.extract ((ji18):Int).toNat ((wrap64 ((ji18) + a1_2)):Int).toNat)) (wrap64 (x7_1 + 1)) a0_0 a0_1 a0_2 a1_0 a1_1 a1_2 a1_3) else (none)) else (none)) else (none)) else (none))=some (r1,r2,r3,r4):=by first|(rw [hji18] at H;exact H)|(simp only [hji18] at H ⊢;exact H)
   have hji18w:(IntKind.i64.wrap ((wrap64 (x7_1 * a0_0)) + a1_0))=ji18:=(i64_w _).trans hji18;replace H:=ifn H;obtain ⟨c19,H⟩:=H;have c19b0:=eq_true c19;have c19b1:=decide_eq_true c19;clear c19;replace H:=ifn H;obtain ⟨c20,H⟩:=H;have c20b0:=eq_true c20;have c20b1:=decide_eq_true c20;replace H:=ifn H;obtain ⟨c21,H⟩:=H;have c21b0:=eq_true c21;have c21b1:=decide_eq_true c21;replace H:=ifn H;obtain ⟨c22,H⟩:=H;have LMc22:=am c22;clear c22;obtain ⟨y679,hy679⟩:∃ y_:List Int,y_=(x6_1 ++ bytesOf (a0_2.extract ((ji18):Int).toNat ((wrap64 ((ji18) + a1_2)):Int).toNat)):=⟨_,rfl⟩
   replace H:(spec_CutOf.l0 k1 y679 (wrap64 (x7_1 + 1)) a0_0 a0_1 a0_2 a1_0 a1_1 a1_2 a1_3)=some (r1,r2,r3,r4):=by subst hy679;exact H
   have Ny679:=am hy679;clear hy679;have H':=am H;clear H;obtain ⟨z25a,z25b,z25c,z25d,z25p,z25q,z25r,z25s⟩:=cl4 BK673;obtain ⟨z27a,z27b,z27c,z27p,z27q,z27r⟩:=cl3 BK672;go_wp2_with (first|(at_builtin;refine print_append_str (w0:=w) w.heap.size rfl (.tmp 32) _ 22 9 5 rfl Tryz.underlying22 Tryz.underlying9 info5 u6 x6_1 (a0_2.extract ((ji18):Int).toNat ((wrap64 ((ji18) + a1_2)):Int).toNat) rfl rfl ?aO ?aB ?aS ?aL ?_;(case aB=>exact (bo HB));(case aO=>exact (Kd.own_of_R (ro HO_6.out)));(case aS=>exact (below_size (bo HB)));(case aL=>have:=LMc22.out;omega);intro v680 w28 ho0 hb hg;have ho:=Kd.R_of_own (h1:=fun _=>rfl) (ok:=fun _=>True) ho0 (fun _ _=>trivial);clear ho0;have hat:=True.intro;rw [← Ny679.out] at ho;change Kd.R (Kd.int .u8) 5 w28 w.heap.size (fun _=>True) v680 y679 at ho;have HO681:=am (ho);replace BK672:=am (blk_grown (bt BK672) hg (Kd.R_ne HO_6.out BK672.out (by decide)));replace BK673:=am (blk_grown (bt BK673) hg (Kd.R_ne HO_6.out BK673.out (by decide)));replace BK674:=am (blk_grown (bt BK674) hg (Kd.R_ne HO_6.out BK674.out (by decide)));replace HB:=am (hb);clear HO_6;clear ho hb hg hat));go_roundg k1;case measure=>have:=HK1.out;omega
   case rel=>exact ⟨(y679),(wrap64 (x7_1 + 1)),rv,H',⟨by have:=HK1.out;omega⟩,(ra HO681.out),bk BK672,bk BK673,bk BK674,bh HB⟩
def spec_l01Long.l0:Nat→Int→Int→List Int→Int→Option (ByteArray)
 | 0,_,_,_,_=>none
 | k + 1,x0,x1,x5,x6=>if x6 < x0 then (if 0≤x6 then (if x6 < (x5.length:Int) then (spec_l01Long.l0 k x0 x1 (x5.set (x6:Int).toNat x1) (wrap64 (x6 + 1))) else (none)) else (none)) else (some (strOfNums x5))
def spec_l01Long.f (k:Nat) (a0:Int) (a1:Int):Option (ByteArray):=if 0≤a0 then (if (a0:Int).toNat≤281474976710656 then (spec_l01Long.l0 k a0 a1 (List.replicate (a0:Int).toNat 0) 0) else (none)) else (none)
theorem spec_l01Long.calls (k:Nat) (a0:Int) (a1:Int) (r:ByteArray) (w:World) (h:spec_l01Long.f k a0 a1=some r) :
  Calls Tryz.prog 46 #[.int .i64 a0,.int .u8 a1] w fun e w'=>e=.returned (.string r)∧Below w.heap.size w w':=by
 have HB:=am (Below.refl w.heap.size w);have H:=h;clear h;unfold spec_l01Long.f at H;by_cases c3:0≤a0;rotate_left
 ·rw [if_neg c3] at H;cases H
 rw [if_pos c3] at H;have c3b0:=eq_true c3;have c3b1:=decide_eq_true c3;clear c3;replace H:=ifn H;obtain ⟨c4,H⟩:=H;have c4b0:=eq_true c4;have c4b1:=decide_eq_true c4;clear c4;obtain ⟨y682,hy682⟩:∃ y_:List Int,y_=(List.replicate (a0:Int).toNat 0):=⟨_,rfl⟩
 replace H:(spec_l01Long.l0 k a0 a1 y682 0)=some r:=by subst hy682;exact H
 have Ny682:=am hy682;clear hy682;have H':=am H;clear H;go_enter Tryz.func46,Tryz.ntmps46;go_wp2_with (first|((with_reducible refine gd 8 ?_);refine Kd.R_make (Kd.int .u8) _ 5 rfl (N:=8) rfl 22 _ _ rfl a0 rfl rfl Tryz.underlying22 (.int .u8 0) 1 info5 rfl (by decide) (by omega) 0 (ok:=fun _=>True) (okp:=fun _=>True) rfl (fun _ hk=>hk) trivial (od) (Nat.le_trans (Nat.mul_le_mul_right _ (od:a0.toNat≤281474976710656)) (by omega)) (Below.refl _ _) (Nat.le_refl _) ?_;intro v683 w5 ho6 hb hg_ hnew_;clear hg_ hnew_;(first | rw [← Ny682.out] at ho6|(simp only [Int.reduceToNat] at ho6;rw [← Ny682.out] at ho6));have HO684:=am (Kd.R_lower ho6 (below_size (bo HB)));replace HB:=bs HB hb;clear hb ho6));go_loopg [6] k (fun kq v6 w'=>∃ (x5_1:List Int) (x6_1:Int),v6=.int .i64 x6_1∧Aside0 (spec_l01Long.l0 kq a0 a1 x5_1 x6_1=some r)∧Aside0 (kq≤k)∧Aside0 (Kd.R (Kd.int .u8) 5 w' w.heap.size (fun _=>True) v683 x5_1)∧Aside0 (Below w.heap.size w w'))
 case atStart=>exact ⟨(y682),(0),rv,H',⟨Nat.le_refl _⟩,(ra HO684.out),bh HB⟩
 case round =>
  clear H';obtain ⟨x5_1,x6_1,rfl,HA,HK1,HO_5,HB⟩:=hrel;cases gk with
  | zero=>exact absurd HA.out (by simp [spec_l01Long.l0])
  | succ k1 =>
   have H:=HA.out;clear HA;simp only [spec_l01Long.l0] at H;replace H:=ifd H;rcases H with ⟨c7b0,H⟩ | ⟨c7b0,H⟩;rotate_left
   ·obtain rfl:=sj H;have hcv13:=own_string (P:=Tryz.prog) Tryz.underlying22 Tryz.underlying5 Tryz.underlying9 (Kd.own_of_R HO_5.out);go_wp2;go_ret;exact ⟨re,bo HB⟩
   replace H:=ifN H;obtain ⟨c8b0,H⟩:=H;replace H:=ifN H;obtain ⟨c9b0,H⟩:=H;obtain ⟨y685,hy685⟩:∃ y_:List Int,y_=(x5_1.set (x6_1:Int).toNat a1):=⟨_,rfl⟩
   replace H:(spec_l01Long.l0 k1 a0 a1 y685 (wrap64 (x6_1 + 1)))=some r:=by subst hy685;exact H
   have Ny685:=am hy685;clear hy685;have H':=am H;clear H;have p10:0≤(x6_1:Int):=od;have q10:(x6_1:Int) < ((x5_1.length:Int):Int):=od;obtain ⟨go10,co10,eo10,gb10,gl10,cl10,HG10⟩:=Kd.R_form HO_5.out (by omega);(first | cases eo10|(injection eo10 with ea_ en_ ec_;(first | subst ea_|(injection ea_ with ea_;subst ea_));subst ec_;clear en_))
   have GB10:=am gb10;have GG10:=am HG10;clear gb10 gl10 HG10;obtain ⟨hx10_0,hf10_0⟩:=Kd.R_celln 0 HO_5.out (x6_1:Int) p10 q10;replace p10:=eq_true p10;replace q10:=eq_true q10;have HP11:=Kd.R_putg HO_5.out (x6_1:Int) a1;go_wp2_with (first|((with_reducible refine gate_store (t:=5) (p:=17) rfl ?_);refine store_event (t:=5) (p:=17) (v:=?vo_w12) (w1:=(wr.setCell ⟨go10,(x6_1:Int).toNat,none⟩ (.int .u8 a1))) ?hg ?ho ?hn ?hr ?_;(case ho=>rfl);(case hg=>rfl);(case hn=>rfl);(case hr=>first|(go_simp;done)|(go_simp;rfl));intro w12 hw;have hg:wr.grownBy w12 (some go10):=(by rw [hw];exact HP11.2);have hp_:Kd.R (Kd.int .u8) 5 w12 w.heap.size (fun _=>True) (.slice (some ⟨go10,0,none⟩) x5_1.length co10) y685:=(by rw [hw,Ny685.out];exact HP11.1);clear HP11;replace HO_5:=am (hp_);replace HB:=am ((by rw [hw];exact below_set (HB.out) GB10.out:Below w.heap.size w w12));clear hg hw hp_));go_roundg k1;case measure=>have:=HK1.out;omega
   case rel=>exact ⟨(y685),(wrap64 (x6_1 + 1)),rv,H',⟨by have:=HK1.out;omega⟩,(ra HO_5.out),bh HB⟩
def spec_Grey.f (k:Nat) (a0:Int) (a1:Int):Option (Int × Int × ByteArray):=(spec_l01In.f a0 1 256).bind fun t687=>(if t687=true then ((spec_l01In.f a1 1 256).bind fun t688=>(if t688=true then ((spec_l01Long.f k (wrap64 (a0 * a1)) 128).bind fun t689=>(some (a0,a1,t689))) else (some (0,0,(⟨#[]⟩:ByteArray))))) else (some (0,0,(⟨#[]⟩:ByteArray))))
theorem spec_Grey.calls (k:Nat) (a0:Int) (a1:Int) (r1:Int) (r2:Int) (r3:ByteArray) (w:World) (h:spec_Grey.f k a0 a1=some (r1,r2,r3)) :
  Calls Tryz.prog 27 #[.int .i64 a0,.int .i64 a1] w fun e w'=>e=.returned (.agg #[.int .i64 r1,.int .i64 r2,.string r3])∧Below w.heap.size w w':=by
 have hu25:=Tryz.underlying25;have HB:=am (Below.refl w.heap.size w);have H:=h;clear h;unfold spec_Grey.f at H;replace H:=bnd H;obtain ⟨t687,A3,H⟩:=H;replace H:=ifb H;rcases H with ⟨rfl,H⟩ | ⟨rfl,H⟩;rotate_left
 ·obtain ⟨rfl,rfl,rfl⟩:=sj3 H;go_enter Tryz.func27,Tryz.ntmps27;go_wp2_with (first|((with_reducible refine gd 4 ?_);refine bx 4 #[.int .i64 0,.int .i64 0,.string (⟨#[]⟩:ByteArray)] 25 ?_;intro gb686 hg w13 BK686 hb;have GE686:=ge HB hg;replace HB:=bs HB hb;clear hb hg)|((with_reducible refine gc 23 ?_);refine gD (some 6) Tryz.func23 _ (spec_l01In.calls _ _ _ _ _ A3.out) ?_;intro nd;(try (rw [drewN_self w13];generalize hq_:World.drewN w13 _=w13;have n0_:Aside0 (w13.heap[gb686]?=some (.cells #[.int .i64 0,.int .i64 0,.string (⟨#[]⟩:ByteArray)] 25 (0,0))):=⟨by rw [← hq_];exact (bt BK686)⟩;have n1_:Aside0 (Below w.heap.size w w13):=⟨by rw [← hq_];exact (bo HB)⟩;clear BK686 HB hq_;have BK686:=n0_;have HB:=n1_;clear n0_ n1_));obtain ⟨z14a,z14b,z14c,z14p,z14q,z14r⟩:=cl3 BK686));refine bodyPost_ret (results_cell_row rfl _ _ gb686 25 #[.int .i64 0,.int .i64 0,.string (⟨#[]⟩:ByteArray)] (0,0) _ rfl ?_ Tryz.underlying25 rfl (by kernel_rfl)) rfl ?_
  ·exact bP BK686
  exact ⟨re,bo HB⟩
 replace H:=bnd H;obtain ⟨t688,A5,H⟩:=H;replace H:=ifb H;rcases H with ⟨rfl,H⟩ | ⟨rfl,H⟩
 ·replace H:=bnd H;obtain ⟨t689,A7,H⟩:=H;obtain ⟨rfl,rfl,rfl⟩:=sj3 H;go_enter Tryz.func27,Tryz.ntmps27;go_wp2_with (first|((with_reducible refine gd 4 ?_);refine bx 4 #[.int .i64 0,.int .i64 0,.string (⟨#[]⟩:ByteArray)] 25 ?_;intro gb686 hg w8 BK686 hb;have GE686:=ge HB hg;replace HB:=bs HB hb;clear hb hg)|((with_reducible refine gc 23 ?_);refine gD (some 6) Tryz.func23 _ (spec_l01In.calls _ _ _ _ _ A3.out) ?_;intro nd;(try (rw [drewN_self w8];generalize hq_:World.drewN w8 _=w8;have n0_:Aside0 (w8.heap[gb686]?=some (.cells #[.int .i64 0,.int .i64 0,.string (⟨#[]⟩:ByteArray)] 25 (0,0))):=⟨by rw [← hq_];exact (bt BK686)⟩;have n1_:Aside0 (Below w.heap.size w w8):=⟨by rw [← hq_];exact (bo HB)⟩;clear BK686 HB hq_;have BK686:=n0_;have HB:=n1_;clear n0_ n1_)))|(go_at_call 23;refine cD (spec_l01In.calls _ _ _ _ _ A5.out) ?_;intro nd;(try (rw [drewN_self w8];generalize hq_:World.drewN w8 _=w8;have n0_:Aside0 (w8.heap[gb686]?=some (.cells #[.int .i64 0,.int .i64 0,.string (⟨#[]⟩:ByteArray)] 25 (0,0))):=⟨by rw [← hq_];exact (bt BK686)⟩;have n1_:Aside0 (Below w.heap.size w w8):=⟨by rw [← hq_];exact (bo HB)⟩;clear BK686 HB hq_;have BK686:=n0_;have HB:=n1_;clear n0_ n1_)))|((with_reducible refine gc 46 ?_);refine gB (some 19) Tryz.func46 _ (spec_l01Long.calls k _ _ _ _ A7.out) ?_ (hargs:=(by (try simp only [List.map_toArray,List.map_cons,List.map_nil]);first | done | rfl|(rw [show (wrap64 (a0 * a1))=(a0 * a1) from by unfold wrap64;omega];rfl)|(simp only [List.length_drop,List.length_take];rfl)));intro w9 hb;replace BK686:=bb BK686 hb;replace HB:=bs HB hb;obtain ⟨z10a,z10b,z10c,z10p,z10q,z10r⟩:=cl3 BK686));refine bodyPost_ret (results_cell_row rfl _ _ gb686 25 #[.int .i64 a0,.int .i64 a1,.string t689] (0,0) _ rfl ?_ Tryz.underlying25 rfl (by kernel_rfl)) rfl ?_
  ·exact bP BK686
  exact ⟨re,bo HB⟩
 ·obtain ⟨rfl,rfl,rfl⟩:=sj3 H;go_enter Tryz.func27,Tryz.ntmps27;go_wp2_with (first|((with_reducible refine gd 4 ?_);refine bx 4 #[.int .i64 0,.int .i64 0,.string (⟨#[]⟩:ByteArray)] 25 ?_;intro gb686 hg w11 BK686 hb;have GE686:=ge HB hg;replace HB:=bs HB hb;clear hb hg)|((with_reducible refine gc 23 ?_);refine gD (some 6) Tryz.func23 _ (spec_l01In.calls _ _ _ _ _ A3.out) ?_;intro nd;(try (rw [drewN_self w11];generalize hq_:World.drewN w11 _=w11;have n0_:Aside0 (w11.heap[gb686]?=some (.cells #[.int .i64 0,.int .i64 0,.string (⟨#[]⟩:ByteArray)] 25 (0,0))):=⟨by rw [← hq_];exact (bt BK686)⟩;have n1_:Aside0 (Below w.heap.size w w11):=⟨by rw [← hq_];exact (bo HB)⟩;clear BK686 HB hq_;have BK686:=n0_;have HB:=n1_;clear n0_ n1_)))|(go_at_call 23;refine cD (spec_l01In.calls _ _ _ _ _ A5.out) ?_;intro nd;(try (rw [drewN_self w11];generalize hq_:World.drewN w11 _=w11;have n0_:Aside0 (w11.heap[gb686]?=some (.cells #[.int .i64 0,.int .i64 0,.string (⟨#[]⟩:ByteArray)] 25 (0,0))):=⟨by rw [← hq_];exact (bt BK686)⟩;have n1_:Aside0 (Below w.heap.size w w11):=⟨by rw [← hq_];exact (bo HB)⟩;clear BK686 HB hq_;have BK686:=n0_;have HB:=n1_;clear n0_ n1_));obtain ⟨z12a,z12b,z12c,z12p,z12q,z12r⟩:=cl3 BK686));refine bodyPost_ret (results_cell_row rfl _ _ gb686 25 #[.int .i64 0,.int .i64 0,.string (⟨#[]⟩:ByteArray)] (0,0) _ rfl ?_ Tryz.underlying25 rfl (by kernel_rfl)) rfl ?_
  ·exact bP BK686
  exact ⟨re,bo HB⟩
def spec_l13Fits.f (a0_0:Int) (a0_1:Int) (a0_2:ByteArray) (a1:Int) (a2:Int):Option (Bool):=if (Int.tmod a1 8)=0 then (if (Int.tmod a2 8)=0 then ((spec_l12Within.f a0_0 a0_1 a0_2 a1 a2 8 8).bind fun t691=>(some t691)) else (some false)) else (some false)
theorem spec_l13Fits.calls (a0_0:Int) (a0_1:Int) (a0_2:ByteArray) (a1:Int) (a2:Int) (r:Bool) (w:World) (h:spec_l13Fits.f a0_0 a0_1 a0_2 a1 a2=some r) :
  Calls Tryz.prog 47 #[.agg #[.int .i64 a0_0,.int .i64 a0_1,.string a0_2],.int .i64 a1,.int .i64 a2] w fun e w'=>e=.returned (.bool r)∧Below w.heap.size w w':=by
 have hu25:=Tryz.underlying25;have HB:=am (Below.refl w.heap.size w);have H:=h;clear h;unfold spec_l13Fits.f at H;replace H:=ife H;rcases H with ⟨-,c4b0,c4b1,H⟩ | ⟨c4,c4b0,c4b1,H⟩
 ·replace H:=ife H;rcases H with ⟨-,c5b0,c5b1,H⟩ | ⟨c5,c5b0,c5b1,H⟩
  ·replace H:=bnd H;obtain ⟨t691,A6,H⟩:=H;obtain rfl:=sj H;go_enter Tryz.func47,Tryz.ntmps47;go_wp2_with (first|((with_reducible refine gd 3 ?_);refine bx 3 #[.int .i64 a0_0,.int .i64 a0_1,.string a0_2] 25 ?_;intro gb690 hg w7 BK690 hb;have GE690:=ge HB hg;replace HB:=bs HB hb;clear hb hg;obtain ⟨z8a,z8b,z8c,z8p,z8q,z8r⟩:=cl3 BK690)|(go_at_call 25;refine cB (spec_l12Within.calls _ _ _ _ _ _ _ _ _ A6.out) ?_;intro w9 hb;replace BK690:=bb BK690 hb;replace HB:=bs HB hb));go_ret;exact ⟨re,bo HB⟩
  ·obtain rfl:=sj H;go_enter Tryz.func47,Tryz.ntmps47;go_wp2_with (first|((with_reducible refine gd 3 ?_);refine bx 3 #[.int .i64 a0_0,.int .i64 a0_1,.string a0_2] 25 ?_;intro gb690 hg w10 BK690 hb;have GE690:=ge HB hg;replace HB:=bs HB hb;clear hb hg));go_ret;exact ⟨re,bo HB⟩
 ·obtain rfl:=sj H;go_enter Tryz.func47,Tryz.ntmps47;go_wp2_with (first|((with_reducible refine gd 3 ?_);refine bx 3 #[.int .i64 a0_0,.int .i64 a0_1,.string a0_2] 25 ?_;intro gb690 hg w11 BK690 hb;have GE690:=ge HB hg;replace HB:=bs HB hb;clear hb hg));go_ret;exact ⟨re,bo HB⟩
def spec_Brought.j0:Nat→Int→Int→Int→Bool→Option (Int)
 | 0,_,_,_,_=>none
 | k + 1,x0,x1,x2,x14=>if x14=true then (some x1) else (if x0 > x2 then (some x2) else (some x0))
def spec_Brought.f (k:Nat) (a0:Int) (a1:Int) (a2:Int):Option (Int):=if a2 < a1 then (spec_Brought.j0 k a0 a1 a2 true) else (spec_Brought.j0 k a0 a1 a2 (decide (a0 < a1)))
theorem spec_Brought.calls (k:Nat) (a0:Int) (a1:Int) (a2:Int) (r:Int) (w:World) (h:spec_Brought.f k a0 a1 a2=some r) :
  Calls Tryz.prog 77 #[.int .i64 a0,.int .i64 a1,.int .i64 a2] w fun e w'=>e=.returned (.int .i64 r)∧Drawn0 w w':=by
 have H:=h;clear h;unfold spec_Brought.f at H;have HC4:=am H;clear H;go_enter Tryz.func77,Tryz.ntmps77;go_upto_region 1 with (fail)
 go_cut [14] (fun v14 wc=>∃ (kq:Nat) (x14_3:Bool),v14=.bool x14_3∧Aside0 (spec_Brought.j0 kq a0 a1 a2 x14_3=some r)∧Aside0 (kq≤k)∧Drawn0 w wc)
 case first =>
  have H:=HC4.out;clear HC4;replace H:=ifd H;rcases H with ⟨c5b0,H⟩ | ⟨c5b0,H⟩
  ·(first | rw [c5b0]|(simp only [i64_w,i32_w];rw [c5b0]) | skip)
   have H':=am H;clear H;go_wp2;go_meet;case rel=>exact ⟨_,(true),rv,H',om,dr⟩
  ·(first | rw [c5b0]|(simp only [i64_w,i32_w];rw [c5b0]) | skip)
   have H':=am H;clear H;go_wp2;go_meet;case rel=>exact ⟨_,(decide (a0 < a1)),rv,H',om,dr⟩
 case rest =>
  clear HC4;obtain ⟨kq,x14_3,rfl,HA,HJ3,⟨mc3,rfl⟩⟩:=hcut;cases kq with
  | zero=>exact absurd HA.out (by simp [spec_Brought.j0])
  | succ kj3 =>
   have H:=HA.out;clear HA;simp only [spec_Brought.j0] at H;replace H:=ifb H;rcases H with ⟨rfl,H⟩ | ⟨rfl,H⟩
   ·obtain rfl:=sj H;go_wp2;go_ret;exact ⟨rv,dr⟩
   ·by_cases c7:a0 > a2
    ·rw [if_pos c7] at H;have c7b0:decide (a2 < a0)=true:=decide_eq_true c7;clear c7;obtain rfl:=sj H;go_wp2;go_ret;exact ⟨rv,dr⟩
    ·rw [if_neg c7] at H;have c7b0:decide (a2 < a0)=false:=decide_eq_false c7;clear c7;obtain rfl:=sj H;go_wp2;go_ret;exact ⟨rv,dr⟩
def spec_DotAt.f (k:Nat) (a0_0:Int) (a0_1:Int) (a0_2:ByteArray) (a1:Int) (a2:Int):Option (Int):=(spec_PicOk.f a0_0 a0_1 a0_2).bind fun t693=>(if t693=true then ((spec_Brought.f k a2 0 (wrap64 (a0_1 - 1))).bind fun t694=>((spec_Brought.f k a1 0 (wrap64 (a0_0 - 1))).bind fun t695=>(if 0≤(wrap64 ((wrap64 (t694 * a0_0)) + t695)) then (if (wrap64 ((wrap64 (t694 * a0_0)) + t695)) < (a0_2.size:Int) then (some (wrap64 (bt a0_2 (wrap64 ((wrap64 (t694 * a0_0)) + t695))))) else (none)) else (none)))) else (some (-1)))
def spec_DotAt.T3:Bool × List (List Nat × List Nat):=(true,[([],[]),([0],[0]),([],[]),([],[]),([3],[3]),([4],[4]),([2,5],[2,5]),([],[]),([7],[7]),([6,8],[6,8]),([],[]),([],[]),([11],[11]),([12],[12]),([10,13,6],[10,13]),([9,14],[9,14]),([1,15],[1,15]),([16],[16]),([17,14,0,1,2,3,4,5,6,7,8,9,10,11,12,13,14,15,16,17],[17])])
def spec_DotAt.B3:List Nat:=[0,1,0,0,8,24,60,0,128,508,0,0,2048,6144,15484,32764,65535,131071,262143]
theorem spec_DotAt.tab3:rtab .any (opsOf Tryz.f70 3)=spec_DotAt.T3:=by kernel_rfl
theorem spec_DotAt.bits3:waitsOk spec_DotAt.T3.2 spec_DotAt.B3=true:=by kernel_rfl
theorem spec_DotAt.calls (k:Nat) (a0_0:Int) (a0_1:Int) (a0_2:ByteArray) (a1:Int) (a2:Int) (r:Int) (w:World) (h:spec_DotAt.f k a0_0 a0_1 a0_2 a1 a2=some r) :
  Calls Tryz.prog 70 #[.agg #[.int .i64 a0_0,.int .i64 a0_1,.string a0_2],.int .i64 a1,.int .i64 a2] w fun e w'=>e=.returned (.int .i64 r)∧Below w.heap.size w w':=by
 have hu25:=Tryz.underlying25;have HB:=am (Below.refl w.heap.size w);have H:=h;clear h;unfold spec_DotAt.f at H;replace H:=bnd H;obtain ⟨t693,A4,H⟩:=H;replace H:=ifb H;rcases H with ⟨rfl,H⟩ | ⟨rfl,H⟩;rotate_left
 ·obtain rfl:=sj H;go_enter Tryz.func70,Tryz.ntmps70;go_wp2_with (first|((with_reducible refine gd 3 ?_);refine bx 3 #[.int .i64 a0_0,.int .i64 a0_1,.string a0_2] 25 ?_;intro gb692 hg w16 BK692 hb;have GE692:=ge HB hg;replace HB:=bs HB hb;clear hb hg;obtain ⟨z17a,z17b,z17c,z17p,z17q,z17r⟩:=cl3 BK692)|((with_reducible refine gc 45 ?_);refine gB (some 8) Tryz.func45 _ (spec_PicOk.calls _ _ _ _ _ A4.out) ?_;intro w18 hb;replace BK692:=bb BK692 hb;replace HB:=bs HB hb));go_ret;exact ⟨re,bo HB⟩
 replace H:=bnd H;obtain ⟨t694,A6,H⟩:=H;replace H:=bnd H;obtain ⟨t695,A7,H⟩:=H;obtain ⟨ji8,hji8⟩:∃ j_:Int,(wrap64 ((wrap64 (t694 * a0_0)) + t695))=j_:=⟨_,rfl⟩
 replace H:(if 0≤(ji8) then (if (ji8) < (a0_2.size:Int) then (some (wrap64 (bt a0_2 (ji8)))) else (none)) else (none))=some r:=by first|(rw [hji8] at H;exact H)|(simp only [hji8] at H ⊢;exact H)
 (try rw [hji8] at A4)
 (try rw [hji8] at A6)
 (try rw [hji8] at A7)
 have hji8w:(IntKind.i64.wrap ((wrap64 (t694 * a0_0)) + t695))=ji8:=(i64_w _).trans hji8;replace H:=ifN H;obtain ⟨c9b0,H⟩:=H;replace H:=ifN H;obtain ⟨c10b0,H⟩:=H;obtain rfl:=sj H;go_enter Tryz.func70,Tryz.ntmps70;try go_wp2_with (first|((with_reducible refine gd 3 ?_);refine bx 3 #[.int .i64 a0_0,.int .i64 a0_1,.string a0_2] 25 ?_;intro gb692 hg w12 BK692 hb;have GE692:=ge HB hg;replace HB:=bs HB hb;clear hb hg;obtain ⟨z13a,z13b,z13c,z13p,z13q,z13r⟩:=cl3 BK692)|((with_reducible refine gc 45 ?_);refine gB (some 8) Tryz.func45 _ (spec_PicOk.calls _ _ _ _ _ A4.out) ?_;intro w14 hb;replace BK692:=bb BK692 hb;replace HB:=bs HB hb))
 replace BK692:=am (blk_drew BK692.out);replace HB:=am (below_drew1 HB.out);refine start_ (n:=19) (S:=fun w'=>w'.cell? ⟨gb692,0,none⟩=some (.int .i64 a0_0)∧w'.cell? ⟨gb692,1,none⟩=some (.int .i64 a0_1)∧w'.cell? ⟨gb692,2,none⟩=some (.string a0_2)) (ds:=[]) (ba 19 0) (by kernel_rfl) rfl rfl ⟨bc BK692 0,bc BK692 1,bc BK692 2⟩ (fun hHeld=>?_);refine with_tabW spec_DotAt.tab3 spec_DotAt.bits3 (fun HT_ HW_=>?_);generalize w14.drew=w15 at BK692 HB hHeld ⊢;refine pu 0 10 (ba 19 1) ?_;refine pu 2 12 (ba 19 5) ?_;refine pu 3 13 (ba 19 13) ?_;refine pu 7 17 (ba 19 141) ?_;refine pu 10 20 (ba 19 1165) ?_;refine pu 11 21 (ba 19 3213) ?_;refine tk 1 11 (ba 19 3215) hHeld ?_;refine tk 4 14 (ba 19 3231) hHeld ?_;refine pu 5 15 (ba 19 3263) ?_;refine tk 8 18 (ba 19 3519) hHeld ?_;refine tk 12 22 (ba 19 7615) hHeld ?_;refine pu 13 23 (ba 19 15807) ?_;refine on 6 16 (ba 19 15871) (fun K hK=>?_);refine gS Tryz.func77 #[.int .i64 a2,.int .i64 0,.int .i64 (wrap64 (a0_1 - 1))] ?_
 with_reducible refine (spec_Brought.calls k a2 0 (wrap64 (a0_1 - 1)) t694 _ A6.out).mono ?_
 rintro e w' ⟨rfl,⟨nd,rfl⟩⟩;refine ⟨_,rfl,?_⟩;refine hK.out _ _ ⟨bc BK692 0,bc BK692 1,bc BK692 2⟩ (fun hHeld=>?_);clear hK K;refine nm ?_;refine pu 9 19 (ba 19 16383) ?_;refine on 14 24 (ba 19 32767) (fun K hK=>?_);refine gS Tryz.func77 #[.int .i64 a1,.int .i64 0,.int .i64 (wrap64 (a0_0 - 1))] ?_
 with_reducible refine (spec_Brought.calls k a1 0 (wrap64 (a0_0 - 1)) t695 _ A7.out).mono ?_
 rintro e w' ⟨rfl,⟨nd,rfl⟩⟩;refine ⟨_,rfl,?_⟩;have p11:0≤((ji8):Int):=od;have q11:(ji8) < (a0_2.size:Int):=od;have hx11:=bt_at a0_2 (ji8);replace p11:=eq_true p11;replace q11:=eq_true q11;refine hK.out _ _ ⟨bc BK692 0,bc BK692 1,bc BK692 2⟩ (fun hHeld=>?_);clear hK K;refine nm ?_;refine pu 15 25 (ba 19 65535) ?_;refine tk 16 26 (ba 19 131071) hHeld ?_;refine pu 17 27 (ba 19 262143) ?_;refine pu 18 6 (ba 19 524287) ?_;refine done_ (done_of HT_.out (by kernel_rfl)) ?_;try go_wp2
 go_ret;exact ⟨by first | rfl|(simp [errW_none,errW_some] <;> rfl)|(simp only [← hji8];first | rfl|(simp [errW_none,errW_some] <;> rfl))|(simp [*,errW_none,errW_some] <;> rfl),bo HB⟩
def spec_EdgesOf.l0:Nat→Int→Int→Int→Int→Int→ByteArray→List Int→List Int→Int→Option (List Int × List Int × Int × Bool)
 | 0,_,_,_,_,_,_,_,_,_=>none
 | k + 1,x1,x2,x9,x697a,x697b,x697c,x700a,x700b,x700c=>if x9 < 8 then (if x2 > 0 then ((spec_DotAt.f k x697a x697b x697c (wrap64 (x1 + x9)) (wrap64 (x2 - 1))).bind fun t701=>(if x700a.length < 17592186044416 then ((some (x700a ++ [t701]:List Int)).bind fun y702=>(if x1 > 0 then ((spec_DotAt.f k x697a x697b x697c (wrap64 (x1 - 1)) (wrap64 (x2 + x9))).bind fun t705=>(if x700b.length < 17592186044416 then (spec_EdgesOf.l0 k x1 x2 (wrap64 (x9 + 1)) x697a x697b x697c y702 (x700b ++ [t705]) x700c) else (none))) else (spec_EdgesOf.l0 k x1 x2 (wrap64 (x9 + 1)) x697a x697b x697c y702 x700b x700c))) else (none))) else (if x1 > 0 then ((spec_DotAt.f k x697a x697b x697c (wrap64 (x1 - 1)) (wrap64 (x2 + x9))).bind fun t709=>(if x700b.length < 17592186044416 then (spec_EdgesOf.l0 k x1 x2 (wrap64 (x9 + 1)) x697a x697b x697c x700a (x700b ++ [t709]) x700c) else (none))) else (spec_EdgesOf.l0 k x1 x2 (wrap64 (x9 + 1)) x697a x697b x697c x700a x700b x700c))) else (if x1 > 0 then (if x2 > 0 then ((spec_DotAt.f k x697a x697b x697c (wrap64 (x1 - 1)) (wrap64 (x2 - 1))).bind fun t700=>(some (x700a,x700b,t700,true))) else (some (x700a,x700b,x700c,true))) else (some (x700a,x700b,x700c,true)))
def spec_EdgesOf.f (k:Nat) (a0_0:Int) (a0_1:Int) (a0_2:ByteArray) (a1:Int) (a2:Int):Option (List Int × List Int × Int × Bool):=(spec_l13Fits.f a0_0 a0_1 a0_2 a1 a2).bind fun t698=>(if t698=true then (spec_EdgesOf.l0 k a1 a2 0 a0_0 a0_1 a0_2 ([]:List Int) ([]:List Int) (-1)) else (some (([]:List Int),([]:List Int),0,false)))
def spec_EdgesOf.T8:Bool × List (List Nat × List Nat):=(true,[([],[]),([0],[0]),([],[]),([],[]),([],[]),([3,4],[3,4]),([],[]),([6],[6]),([2,5,7],[2,5,7]),([8],[8]),([1,9,8],[1,9]),([0,1,2,3,4,5,6,7,8,9,10],[]),([11,10,10,0,1,2,3,4,5,6,7,8,9,10],[10,11])])
def spec_EdgesOf.B8:List Nat:=[0,1,0,0,0,24,0,64,252,508,1023,2047,4095]
theorem spec_EdgesOf.tab8:rtab .any (opsOf Tryz.f48 8)=spec_EdgesOf.T8:=by kernel_rfl
theorem spec_EdgesOf.bits8:waitsOk spec_EdgesOf.T8.2 spec_EdgesOf.B8=true:=by kernel_rfl
def spec_EdgesOf.T10:Bool × List (List Nat × List Nat):=(true,[([],[]),([0],[0]),([],[]),([],[]),([3],[3]),([],[]),([],[]),([5,6],[5,6]),([2,4,7],[2,4,7]),([8],[8]),([1,9,8],[1,9]),([0,1,2,3,4,5,6,7,8,9,10],[]),([11,10,10,0,1,2,3,4,5,6,7,8,9,10],[10,11])])
def spec_EdgesOf.B10:List Nat:=[0,1,0,0,8,0,0,96,252,508,1023,2047,4095]
theorem spec_EdgesOf.tab10:rtab .any (opsOf Tryz.f48 10)=spec_EdgesOf.T10:=by kernel_rfl
theorem spec_EdgesOf.bits10:waitsOk spec_EdgesOf.T10.2 spec_EdgesOf.B10=true:=by kernel_rfl
theorem spec_EdgesOf.calls (k:Nat) (a0_0:Int) (a0_1:Int) (a0_2:ByteArray) (a1:Int) (a2:Int) (r1:List Int) (r2:List Int) (r3:Int) (r4:Bool) (w:World) (h:spec_EdgesOf.f k a0_0 a0_1 a0_2 a1 a2=some (r1,r2,r3,r4)) :
  Calls Tryz.prog 48 #[.agg #[.int .i64 a0_0,.int .i64 a0_1,.string a0_2],.int .i64 a1,.int .i64 a2] w fun e w'=>∃ v0_ v1_:Value,e=.returned (.tuple #[.agg #[v0_,v1_,.int .i64 r3],.bool r4])∧Kd.R (Kd.int .i64) 3 w' w.heap.size (fun k_=>some k_≠(v1_:Value).ownBlock) v0_ r1∧Kd.R (Kd.int .i64) 3 w' w.heap.size (fun k_=>some k_≠(v0_:Value).ownBlock) v1_ r2∧Below w.heap.size w w':=by
 have hu25:=Tryz.underlying25;have hu69:=Tryz.underlying69;have HB:=am (Below.refl w.heap.size w);have H:=h;clear h;unfold spec_EdgesOf.f at H;replace H:=bnd H;obtain ⟨t698,A4,H⟩:=H;replace H:=ifb H;rcases H with ⟨rfl,H⟩ | ⟨rfl,H⟩;rotate_left
 ·obtain ⟨rfl,rfl,rfl,rfl⟩:=sj4 H;go_enter Tryz.func48,Tryz.ntmps48;go_wp2_with (first|((with_reducible refine gd 3 ?_);refine bx 3 #[.int .i64 a0_0,.int .i64 a0_1,.string a0_2] 25 ?_;intro gb696 hg w72 BK696 hb;have GE696:=ge HB hg;replace HB:=bs HB hb;clear hb hg)|((with_reducible refine gd 6 ?_);refine bx 6 #[.slice none 0 0,.slice none 0 0,.int .i64 0] 69 ?_;intro gb697 hg w73 BK697 hb;have GE697:=ge HB hg;have NB696_697:=n1 BK696 hg;have NB697_696:=n2 BK696 hg;replace BK696:=bb BK696 hb;replace HB:=bs HB hb;clear hb hg;have ⟨hnb74,hnc74⟩:=nn NB696_697;obtain ⟨z75a,z75b,z75c,z75p,z75q,z75r⟩:=cl3 BK696)|((with_reducible refine gc 47 ?_);refine gB (some 13) Tryz.func47 _ (spec_l13Fits.calls _ _ _ _ _ _ _ A4.out) ?_;intro w76 hb;replace BK696:=bb BK696 hb;replace BK697:=bb BK697 hb;replace HB:=bs HB hb;obtain ⟨z77a,z77b,z77c,z77p,z77q,z77r⟩:=cl3 BK697));refine bodyPost_ret (results_ct rfl _ _ gb697 69 #[.slice none 0 0,.slice none 0 0,.int .i64 0] (0,0) _ rfl ?_ Tryz.underlying69 rfl (by kernel_rfl)) rfl ?_
  ·exact bP BK697
  exact ⟨_,_,re,by first | exact Kd.R_nil _ _ _ _ _ | exact Kd.N_nil _ _ _ _ _ | exact Kd.V_nil _ _ _ _ _ | exact Kd.Q_nil _ _ _ _ _ | exact Kd.S_nil _ _ _ _ _,by first | exact Kd.R_nil _ _ _ _ _ | exact Kd.N_nil _ _ _ _ _ | exact Kd.V_nil _ _ _ _ _ | exact Kd.Q_nil _ _ _ _ _ | exact Kd.S_nil _ _ _ _ _,bo HB⟩
 have H':=am H;clear H;go_enter Tryz.func48,Tryz.ntmps48;go_wp2_with (first|((with_reducible refine gd 3 ?_);refine bx 3 #[.int .i64 a0_0,.int .i64 a0_1,.string a0_2] 25 ?_;intro gb696 hg w6 BK696 hb;have GE696:=ge HB hg;replace HB:=bs HB hb;clear hb hg)|((with_reducible refine gd 6 ?_);refine bx 6 #[.slice none 0 0,.slice none 0 0,.int .i64 0] 69 ?_;intro gb697 hg w7 BK697 hb;have GE697:=ge HB hg;have NB696_697:=n1 BK696 hg;have NB697_696:=n2 BK696 hg;replace BK696:=bb BK696 hb;replace HB:=bs HB hb;clear hb hg;have ⟨hnb8,hnc8⟩:=nn NB696_697;obtain ⟨z9a,z9b,z9c,z9p,z9q,z9r⟩:=cl3 BK696)|((with_reducible refine gc 47 ?_);refine gB (some 13) Tryz.func47 _ (spec_l13Fits.calls _ _ _ _ _ _ _ A4.out) ?_;intro w10 hb;replace BK696:=bb BK696 hb;replace BK697:=bb BK697 hb;replace HB:=bs HB hb)|((with_reducible refine gd 8 ?_);refine bx 8 #[.slice none 0 0,.slice none 0 0,.int .i64 0] 69 ?_;intro gb699 hg w11 BK699 hb;have GE699:=ge HB hg;have NB696_699:=n1 BK696 hg;have NB699_696:=n2 BK696 hg;have NB697_699:=n1 BK697 hg;have NB699_697:=n2 BK697 hg;replace BK696:=bb BK696 hb;replace BK697:=bb BK697 hb;replace HB:=bs HB hb;clear hb hg;have ⟨hnb12,hnc12⟩:=nn NB699_696;have ⟨hnb13,hnc13⟩:=nn NB699_697;obtain ⟨z14a,z14b,z14c,z14p,z14q,z14r⟩:=cl3 BK699));go_loopg [9] k (fun kq v9 w'=>∃ (x9_1:Int) (x700a_1:List Int) (x700b_1:List Int) (u700000:Value) (u700001:Value),v9=.int .i64 x9_1∧Aside0 (spec_EdgesOf.l0 kq a1 a2 x9_1 a0_0 a0_1 a0_2 x700a_1 x700b_1 (-1)=some (r1,r2,r3,r4))∧Aside0 (kq≤k)∧Aside0 (Kd.R (Kd.int .i64) 3 w' w.heap.size (fun k_=>some k_≠(u700001:Value).ownBlock) u700000 x700a_1)∧Aside0 (Kd.R (Kd.int .i64) 3 w' w.heap.size (fun k_=>some k_≠(u700000:Value).ownBlock) u700001 x700b_1)∧Aside0 (w'.heap[gb696]?=some (.cells #[.int .i64 a0_0,.int .i64 a0_1,.string a0_2] 25 (0,0)))∧Aside0 (w'.heap[gb697]?=some (.cells #[(.slice none 0 0),(.slice none 0 0),.int .i64 0] 69 (0,0)))∧Aside0 (w'.heap[gb699]?=some (.cells #[u700000,u700001,.int .i64 (-1)] 69 (0,0)))∧Aside0 (Below w.heap.size w w'))
 case atStart=>exact ⟨(0),(([]:List Int)),(([]:List Int)),(.slice none 0 0),(.slice none 0 0),rv,H',⟨Nat.le_refl _⟩,⟨by first | exact Kd.R_nil _ _ _ _ _ | exact Kd.N_nil _ _ _ _ _ | exact Kd.V_nil _ _ _ _ _ | exact Kd.Q_nil _ _ _ _ _ | exact Kd.S_nil _ _ _ _ _⟩,⟨by first | exact Kd.R_nil _ _ _ _ _ | exact Kd.N_nil _ _ _ _ _ | exact Kd.V_nil _ _ _ _ _ | exact Kd.Q_nil _ _ _ _ _ | exact Kd.S_nil _ _ _ _ _⟩,bk BK696,bk BK697,(bA BK699),bh HB⟩
 case round =>
  clear H';try clear z14a z14b z14c z14p z14q z14r
  try clear z9a z9b z9c z9p z9q z9r
  obtain ⟨x9_1,x700a_1,x700b_1,u700000,u700001,rfl,HA,HK1,HO_700000,HO_700001,BK696,BK697,BK699,HB⟩:=hrel;cases gk with
  | zero=>exact absurd HA.out (by simp [spec_EdgesOf.l0])
  | succ k1 =>
   have H:=HA.out;clear HA;simp only [spec_EdgesOf.l0] at H;replace H:=ifd H;rcases H with ⟨c15b0,H⟩ | ⟨c15b0,H⟩;rotate_left
   ·by_cases c46:a1 > 0;rotate_left
    ·rw [if_neg c46] at H;have c46b0:decide (0 < a1)=false:=decide_eq_false c46;clear c46;obtain ⟨rfl,rfl,rfl,rfl⟩:=sj4 H;obtain ⟨z67a,z67b,z67c,z67p,z67q,z67r⟩:=cl3 BK699;obtain ⟨Ao68,co68,eo68⟩:=Kd.R_slice HO_700000.out;subst eo68;obtain ⟨z70a,z70b,z70c,z70p,z70q,z70r⟩:=cl3 BK697;obtain ⟨Ao71,co71,eo71⟩:=Kd.R_slice HO_700001.out;subst eo71;go_wp2;refine bodyPost_ret (results_ct rfl _ _ gb697 69 #[.slice Ao68 x700a_1.length co68,.slice Ao71 x700b_1.length co71,.int .i64 (-1)] (0,0) _ rfl ?_ Tryz.underlying69 rfl (by kernel_rfl)) rfl ?_
     ·exact bP BK697
     exact ⟨_,_,re,ro (Kd.R_mono (Kd.R_far (p:=⟨gb697,2,none⟩) (Kd.R_far (p:=⟨gb697,1,none⟩) (Kd.R_far (p:=⟨gb697,0,none⟩) (Kd.R_types HO_700000.out BK697.out (by decide)) (fun _ hk=>hk.2) (.slice Ao68 x700a_1.length co68)) (fun _ hk=>hk.2) (.slice Ao71 x700b_1.length co71)) (fun _ hk=>hk.2) (.int .i64 (-1))) (fun _ hk=>hk.1)),ro (Kd.R_mono (Kd.R_far (p:=⟨gb697,2,none⟩) (Kd.R_far (p:=⟨gb697,1,none⟩) (Kd.R_far (p:=⟨gb697,0,none⟩) (Kd.R_types HO_700001.out BK697.out (by decide)) (fun _ hk=>hk.2) (.slice Ao68 x700a_1.length co68)) (fun _ hk=>hk.2) (.slice Ao71 x700b_1.length co71)) (fun _ hk=>hk.2) (.int .i64 (-1))) (fun _ hk=>hk.1)),bo HB⟩
    rw [if_pos c46] at H;have c46b0:decide (0 < a1)=true:=decide_eq_true c46;clear c46;by_cases c47:a2 > 0
    ·rw [if_pos c47] at H;have c47b0:decide (0 < a2)=true:=decide_eq_true c47;clear c47;replace H:=bnd H;obtain ⟨t700,A48,H⟩:=H;obtain ⟨rfl,rfl,rfl,rfl⟩:=sj4 H;obtain ⟨z51a,z51b,z51c,z51p,z51q,z51r⟩:=cl3 BK696;go_wp2_with (first|((with_reducible refine gc 70 ?_);refine gB (some 60) Tryz.func70 _ (spec_DotAt.calls _ _ _ _ _ _ _ _ A48.out) ?_ (hargs:=(by (try simp only [List.map_toArray,List.map_cons,List.map_nil]);first | done | rfl|(rw [show (wrap64 (a1 - 1))=(a1 - 1) from by unfold wrap64;omega,show (wrap64 (a2 - 1))=(a2 - 1) from by unfold wrap64;omega];rfl)|(simp only [List.length_drop,List.length_take];rfl)));intro w52 hb;replace HO_700000:=am (Kd.R_below (ro HO_700000.out) hb);replace HO_700001:=am (Kd.R_below (ro HO_700001.out) hb);replace BK696:=bb BK696 hb;replace BK697:=bb BK697 hb;replace BK699:=bb BK699 hb;replace HB:=bs HB hb;obtain ⟨z54a,z54b,z54c,z54p,z54q,z54r⟩:=cl3 BK699;obtain ⟨Ao55,co55,eo55⟩:=Kd.R_slice HO_700000.out;subst eo55;obtain ⟨z56a,z56b,z56c,z56p,z56q,z56r⟩:=cl3 BK697;obtain ⟨Ao57,co57,eo57⟩:=Kd.R_slice HO_700001.out;subst eo57));refine bodyPost_ret (results_ct rfl _ _ gb697 69 #[.slice Ao55 x700a_1.length co55,.slice Ao57 x700b_1.length co57,.int .i64 t700] (0,0) _ rfl ?_ Tryz.underlying69 rfl (by kernel_rfl)) rfl ?_
     ·exact bP BK697
     exact ⟨_,_,re,ro (Kd.R_mono (Kd.R_far (p:=⟨gb697,2,none⟩) (Kd.R_far (p:=⟨gb697,1,none⟩) (Kd.R_far (p:=⟨gb697,0,none⟩) (Kd.R_far (p:=⟨gb699,2,none⟩) (Kd.R_types (Kd.R_types HO_700000.out BK699.out (by decide)) BK697.out (by decide)) (fun _ hk=>hk.1.2) (.int .i64 t700)) (fun _ hk=>hk.2) (.slice Ao55 x700a_1.length co55)) (fun _ hk=>hk.2) (.slice Ao57 x700b_1.length co57)) (fun _ hk=>hk.2) (.int .i64 t700)) (fun _ hk=>hk.1.1)),ro (Kd.R_mono (Kd.R_far (p:=⟨gb697,2,none⟩) (Kd.R_far (p:=⟨gb697,1,none⟩) (Kd.R_far (p:=⟨gb697,0,none⟩) (Kd.R_far (p:=⟨gb699,2,none⟩) (Kd.R_types (Kd.R_types HO_700001.out BK699.out (by decide)) BK697.out (by decide)) (fun _ hk=>hk.1.2) (.int .i64 t700)) (fun _ hk=>hk.2) (.slice Ao55 x700a_1.length co55)) (fun _ hk=>hk.2) (.slice Ao57 x700b_1.length co57)) (fun _ hk=>hk.2) (.int .i64 t700)) (fun _ hk=>hk.1.1)),bo HB⟩
    ·rw [if_neg c47] at H;have c47b0:decide (0 < a2)=false:=decide_eq_false c47;clear c47;obtain ⟨rfl,rfl,rfl,rfl⟩:=sj4 H;obtain ⟨z60a,z60b,z60c,z60p,z60q,z60r⟩:=cl3 BK699;obtain ⟨Ao61,co61,eo61⟩:=Kd.R_slice HO_700000.out;subst eo61;obtain ⟨z63a,z63b,z63c,z63p,z63q,z63r⟩:=cl3 BK697;obtain ⟨Ao64,co64,eo64⟩:=Kd.R_slice HO_700001.out;subst eo64;go_wp2;refine bodyPost_ret (results_ct rfl _ _ gb697 69 #[.slice Ao61 x700a_1.length co61,.slice Ao64 x700b_1.length co64,.int .i64 (-1)] (0,0) _ rfl ?_ Tryz.underlying69 rfl (by kernel_rfl)) rfl ?_
     ·exact bP BK697
     exact ⟨_,_,re,ro (Kd.R_mono (Kd.R_far (p:=⟨gb697,2,none⟩) (Kd.R_far (p:=⟨gb697,1,none⟩) (Kd.R_far (p:=⟨gb697,0,none⟩) (Kd.R_types HO_700000.out BK697.out (by decide)) (fun _ hk=>hk.2) (.slice Ao61 x700a_1.length co61)) (fun _ hk=>hk.2) (.slice Ao64 x700b_1.length co64)) (fun _ hk=>hk.2) (.int .i64 (-1))) (fun _ hk=>hk.1)),ro (Kd.R_mono (Kd.R_far (p:=⟨gb697,2,none⟩) (Kd.R_far (p:=⟨gb697,1,none⟩) (Kd.R_far (p:=⟨gb697,0,none⟩) (Kd.R_types HO_700001.out BK697.out (by decide)) (fun _ hk=>hk.2) (.slice Ao61 x700a_1.length co61)) (fun _ hk=>hk.2) (.slice Ao64 x700b_1.length co64)) (fun _ hk=>hk.2) (.int .i64 (-1))) (fun _ hk=>hk.1)),bo HB⟩
   by_cases c16:a2 > 0;rotate_left
   ·rw [if_neg c16] at H;have c16b0:decide (0 < a2)=false:=decide_eq_false c16;clear c16;by_cases c38:a1 > 0;rotate_left
    ·rw [if_neg c38] at H;have c38b0:decide (0 < a1)=false:=decide_eq_false c38;clear c38;have H':=am H;clear H;go_wp2;go_roundg k1;case measure=>have:=HK1.out;omega
     case rel=>exact ⟨(wrap64 (x9_1 + 1)),(x700a_1),(x700b_1),(u700000),(u700001),rv,H',⟨by have:=HK1.out;omega⟩,(ra HO_700000.out),(ra HO_700001.out),bk BK696,bk BK697,bk BK699,bh HB⟩
    rw [if_pos c38] at H;have c38b0:decide (0 < a1)=true:=decide_eq_true c38;clear c38;replace H:=bnd H;obtain ⟨t709,A39,H⟩:=H;replace H:=ifn H;obtain ⟨c40,H⟩:=H;have LMc40:=am c40;clear c40;obtain ⟨y710,hy710⟩:∃ y_:List Int,y_=(x700b_1 ++ [t709]):=⟨_,rfl⟩
    replace H:(spec_EdgesOf.l0 k1 a1 a2 (wrap64 (x9_1 + 1)) a0_0 a0_1 a0_2 x700a_1 y710 (-1))=some (r1,r2,r3,r4):=by subst hy710;exact H
    have Ny710:=am hy710;clear hy710;have H':=am H;clear H;try go_wp2
    replace HO_700000:=am (Kd.R_drew HO_700000.out);replace HO_700001:=am (Kd.R_drew HO_700001.out);replace BK696:=am (blk_drew BK696.out);replace BK697:=am (blk_drew BK697.out);replace BK699:=am (blk_drew BK699.out);replace HB:=am (below_drew1 HB.out);refine start_ (n:=13) (S:=fun w'=>w'.cell? ⟨gb699,0,none⟩=some (u700000)∧w'.cell? ⟨gb699,1,none⟩=some (u700001)∧w'.cell? ⟨gb699,2,none⟩=some (.int .i64 (-1))∧w'.cell? ⟨gb696,0,none⟩=some (.int .i64 a0_0)∧w'.cell? ⟨gb696,1,none⟩=some (.int .i64 a0_1)∧w'.cell? ⟨gb696,2,none⟩=some (.string a0_2)) (ds:=[12]) (ba 13 0) (by kernel_rfl) rfl rfl ⟨bc BK699 0,bc BK699 1,bc BK699 2,bc BK696 0,bc BK696 1,bc BK696 2⟩ (fun hHeld=>?_);refine with_tabW spec_EdgesOf.tab10 spec_EdgesOf.bits10 (fun HT_ HW_=>?_);generalize wr.drew=w41 at HO_700000 HO_700001 BK696 BK697 BK699 HB hHeld ⊢;refine pu 0 37 (ba 13 1) ?_;refine pu 3 40 (ba 13 9) ?_;refine pu 4 41 (ba 13 25) ?_;refine pu 5 42 (ba 13 57) ?_;refine pu 6 43 (ba 13 121) ?_;refine pu 7 44 (ba 13 249) ?_;refine tk 1 38 (ba 13 251) hHeld ?_;refine tk 2 39 (ba 13 255) hHeld ?_;refine on 8 45 (ba 13 511) (fun K hK=>?_);refine gS Tryz.func70 #[.agg #[.int .i64 a0_0,.int .i64 a0_1,.string a0_2],.int .i64 (wrap64 (a1 - 1)),.int .i64 (wrap64 (a2 + x9_1))] ?_
    with_reducible refine (spec_DotAt.calls k1 a0_0 a0_1 a0_2 (wrap64 (a1 - 1)) (wrap64 (a2 + x9_1)) t709 _ A39.out).mono ?_
    rintro e w42 ⟨rfl,hb⟩;refine ⟨_,rfl,?_⟩;replace HO_700000:=am (Kd.R_below (ro HO_700000.out) hb);replace HO_700001:=am (Kd.R_below (ro HO_700001.out) hb);replace BK696:=bb BK696 hb;replace BK697:=bb BK697 hb;replace BK699:=bb BK699 hb;replace HB:=bs HB hb;(try clear hb)
    (try clear hb2)
    (try clear hk)
    (try clear hi)
    refine hK.out _ _ ⟨bc BK699 0,bc BK699 1,bc BK699 2,bc BK696 0,bc BK696 1,bc BK696 2⟩ (fun hHeld=>?_);clear hK K;refine nm ?_;refine on 9 46 (ba 13 1023) (fun K hK=>?_);refine value_ (w1:=?_) (v:=?_) (by rfl) rfl ?_ ?_;rotate_left 2
    ·go_simp
     constructor
     ·rfl
     ·rfl
    refine hK.out _ _ ⟨(blk_cell (blk_alloc BK699.out _) 0).trans rfl,(blk_cell (blk_alloc BK699.out _) 1).trans rfl,(blk_cell (blk_alloc BK699.out _) 2).trans rfl,(blk_cell (blk_alloc BK696.out _) 0).trans rfl,(blk_cell (blk_alloc BK696.out _) 1).trans rfl,(blk_cell (blk_alloc BK696.out _) 2).trans rfl⟩ (fun hHeld=>?_);clear hK K;refine nm ?_;refine on 10 47 (ba 13 2047) (fun K hK=>?_);refine Kd.R_append_step (Kd.int .i64) (w0:=w) w.heap.size (by rfl) (.tmp 38) (.tmp 46) 33 3 (.int .i64 0) 8 rfl Tryz.underlying33 info3 rfl (by decide) (by omega) u700001 x700b_1 t709 [.int .i64 t709] (fun k_=>some k_≠(u700000:Value).ownBlock) (fun _=>False) rfl rfl ?aP (fun _ hk=>hk.elim) ?aF ?aO ?aB ?aS ?aL ?_;(case aP=>exact rfl)
    (case aB=>exact (bo HB))
    (case aF=>exact (fun k_ hk=>Kd.fresh' (Kd.R_lt (ro HO_700000.out)) k_ hk))
    (case aO=>exact (ro HO_700001.out))
    (case aS=>exact (below_size (bo HB)))
    (case aL=>have:=LMc40.out;omega)
    intro v711 w43 ho hb hg hat;rw [← Ny710.out] at ho;have HO712:=am (ho);replace HO_700000:=am (Kd.R_after (ok:=(fun _=>True)) (ro (Kd.R_mono HO_700000.out (fun _ hk=>⟨trivial,hk⟩))) hg hat);replace BK696:=am (blk_grown (bt BK696) hg (Kd.R_ne HO_700001.out BK696.out (by decide)));replace BK697:=am (blk_grown (bt BK697) hg (Kd.R_ne HO_700001.out BK697.out (by decide)));replace BK699:=am (blk_grown (bt BK699) hg (Kd.R_ne HO_700001.out BK699.out (by decide)));replace HB:=am (hb);clear HO_700001;clear ho hb hg hat;obtain ⟨Ao44,co44,eo44⟩:=Kd.R_slice HO712.out;(first | subst eo44|(injection eo44 with f1_ f2_ f3_;have f4_:=f1_.symm;have f5_:=f3_.symm;clear f1_ f2_ f3_;subst f4_;subst f5_))
    refine hK.out _ _ ⟨bc BK699 0,bc BK699 1,bc BK699 2,bc BK696 0,bc BK696 1,bc BK696 2⟩ (fun hHeld=>?_);clear hK K;refine nm ?_;refine pu 11 48 (ba 13 4095) ?_;refine last_ (i:=12) (N:=none) (ba 13 8191) rfl rfl (one_of HT_.out (by kernel_rfl)) (by decide) (fun K hK=>?_);have hs45:w43.cell? ⟨gb699,1,none⟩=some (u700001):=bc BK699 1;have hfs45:=blk_frozen BK699.out 1;have hns45_0:=NB696_699.out;have hns45_1:=NB697_699.out;have hms45_0:=NB699_696.out;have hms45_1:=NB699_697.out;refine sk ?_;refine hK.out _ _ ?_;clear hK K;refine done_ (done_of HT_.out (by kernel_rfl)) ?_;try go_wp2
    go_roundg k1;case measure=>have:=HK1.out;omega
    case rel=>exact ⟨(wrap64 (x9_1 + 1)),(x700a_1),(y710),(u700000),(.slice Ao44 y710.length co44),rv,H',⟨by have:=HK1.out;omega⟩,(ra (Kd.R_mono (Kd.R_far (p:=⟨gb699,1,none⟩) (Kd.R_types HO_700000.out BK699.out (by decide)) (fun _ hk=>hk.2) (.slice Ao44 y710.length co44)) (fun _ hk=>hk.1.2))),(ra (Kd.R_mono (Kd.R_far (p:=⟨gb699,1,none⟩) (Kd.R_types HO712.out BK699.out (by decide)) (fun _ hk=>hk.2) (.slice Ao44 y710.length co44)) (fun _ hk=>hk.1))),bk BK696,bk BK697,(bA BK699),bh HB⟩
   rw [if_pos c16] at H;have c16b0:decide (0 < a2)=true:=decide_eq_true c16;clear c16;replace H:=bnd H;obtain ⟨t701,A17,H⟩:=H;replace H:=ifn H;obtain ⟨c18,H⟩:=H;have LMc18:=am c18;clear c18;replace H:=yl H;obtain ⟨y702,Ny702,H⟩:=H;by_cases c19:a1 > 0;rotate_left
   ·rw [if_neg c19] at H;have c19b0:decide (0 < a1)=false:=decide_eq_false c19;clear c19;have H':=am H;clear H;try go_wp2
    replace HO_700000:=am (Kd.R_drew HO_700000.out);replace HO_700001:=am (Kd.R_drew HO_700001.out);replace BK696:=am (blk_drew BK696.out);replace BK697:=am (blk_drew BK697.out);replace BK699:=am (blk_drew BK699.out);replace HB:=am (below_drew1 HB.out);refine start_ (n:=13) (S:=fun w'=>w'.cell? ⟨gb699,0,none⟩=some (u700000)∧w'.cell? ⟨gb699,1,none⟩=some (u700001)∧w'.cell? ⟨gb699,2,none⟩=some (.int .i64 (-1))∧w'.cell? ⟨gb696,0,none⟩=some (.int .i64 a0_0)∧w'.cell? ⟨gb696,1,none⟩=some (.int .i64 a0_1)∧w'.cell? ⟨gb696,2,none⟩=some (.string a0_2)) (ds:=[12]) (ba 13 0) (by kernel_rfl) rfl rfl ⟨bc BK699 0,bc BK699 1,bc BK699 2,bc BK696 0,bc BK696 1,bc BK696 2⟩ (fun hHeld=>?_);refine with_tabW spec_EdgesOf.tab8 spec_EdgesOf.bits8 (fun HT_ HW_=>?_);generalize wr.drew=w33 at HO_700000 HO_700001 BK696 BK697 BK699 HB hHeld ⊢;refine pu 0 23 (ba 13 1) ?_;refine pu 3 26 (ba 13 9) ?_;refine pu 4 27 (ba 13 25) ?_;refine pu 5 28 (ba 13 57) ?_;refine pu 6 29 (ba 13 121) ?_;refine pu 7 30 (ba 13 249) ?_;refine tk 1 24 (ba 13 251) hHeld ?_;refine tk 2 25 (ba 13 255) hHeld ?_;refine on 8 31 (ba 13 511) (fun K hK=>?_);refine gS Tryz.func70 #[.agg #[.int .i64 a0_0,.int .i64 a0_1,.string a0_2],.int .i64 (wrap64 (a1 + x9_1)),.int .i64 (wrap64 (a2 - 1))] ?_
    with_reducible refine (spec_DotAt.calls k1 a0_0 a0_1 a0_2 (wrap64 (a1 + x9_1)) (wrap64 (a2 - 1)) t701 _ A17.out).mono ?_
    rintro e w34 ⟨rfl,hb⟩;refine ⟨_,rfl,?_⟩;replace HO_700000:=am (Kd.R_below (ro HO_700000.out) hb);replace HO_700001:=am (Kd.R_below (ro HO_700001.out) hb);replace BK696:=bb BK696 hb;replace BK697:=bb BK697 hb;replace BK699:=bb BK699 hb;replace HB:=bs HB hb;(try clear hb)
    (try clear hb2)
    (try clear hk)
    (try clear hi)
    refine hK.out _ _ ⟨bc BK699 0,bc BK699 1,bc BK699 2,bc BK696 0,bc BK696 1,bc BK696 2⟩ (fun hHeld=>?_);clear hK K;refine nm ?_;refine on 9 32 (ba 13 1023) (fun K hK=>?_);refine value_ (w1:=?_) (v:=?_) (by rfl) rfl ?_ ?_;rotate_left 2
    ·go_simp
     constructor
     ·rfl
     ·rfl
    refine hK.out _ _ ⟨(blk_cell (blk_alloc BK699.out _) 0).trans rfl,(blk_cell (blk_alloc BK699.out _) 1).trans rfl,(blk_cell (blk_alloc BK699.out _) 2).trans rfl,(blk_cell (blk_alloc BK696.out _) 0).trans rfl,(blk_cell (blk_alloc BK696.out _) 1).trans rfl,(blk_cell (blk_alloc BK696.out _) 2).trans rfl⟩ (fun hHeld=>?_);clear hK K;refine nm ?_;refine on 10 33 (ba 13 2047) (fun K hK=>?_);refine Kd.R_append_step (Kd.int .i64) (w0:=w) w.heap.size (by rfl) (.tmp 24) (.tmp 32) 33 3 (.int .i64 0) 8 rfl Tryz.underlying33 info3 rfl (by decide) (by omega) u700000 x700a_1 t701 [.int .i64 t701] (fun k_=>some k_≠(u700001:Value).ownBlock) (fun _=>False) rfl rfl ?aP (fun _ hk=>hk.elim) ?aF ?aO ?aB ?aS ?aL ?_;(case aP=>exact rfl)
    (case aB=>exact (bo HB))
    (case aF=>exact (fun k_ hk=>Kd.fresh' (Kd.R_lt (ro HO_700001.out)) k_ hk))
    (case aO=>exact (ro HO_700000.out))
    (case aS=>exact (below_size (bo HB)))
    (case aL=>have:=LMc18.out;omega)
    intro v703 w35 ho hb hg hat;rw [← Ny702.out] at ho;have HO704:=am (ho);replace HO_700001:=am (Kd.R_after (ok:=(fun _=>True)) (ro (Kd.R_mono HO_700001.out (fun _ hk=>⟨trivial,hk⟩))) hg hat);replace BK696:=am (blk_grown (bt BK696) hg (Kd.R_ne HO_700000.out BK696.out (by decide)));replace BK697:=am (blk_grown (bt BK697) hg (Kd.R_ne HO_700000.out BK697.out (by decide)));replace BK699:=am (blk_grown (bt BK699) hg (Kd.R_ne HO_700000.out BK699.out (by decide)));replace HB:=am (hb);clear HO_700000;clear ho hb hg hat;obtain ⟨Ao36,co36,eo36⟩:=Kd.R_slice HO704.out;(first | subst eo36|(injection eo36 with f1_ f2_ f3_;have f4_:=f1_.symm;have f5_:=f3_.symm;clear f1_ f2_ f3_;subst f4_;subst f5_))
    refine hK.out _ _ ⟨bc BK699 0,bc BK699 1,bc BK699 2,bc BK696 0,bc BK696 1,bc BK696 2⟩ (fun hHeld=>?_);clear hK K;refine nm ?_;refine pu 11 34 (ba 13 4095) ?_;refine last_ (i:=12) (N:=none) (ba 13 8191) rfl rfl (one_of HT_.out (by kernel_rfl)) (by decide) (fun K hK=>?_);have hs37:w35.cell? ⟨gb699,0,none⟩=some (u700000):=bc BK699 0;have hfs37:=blk_frozen BK699.out 0;have hns37_0:=NB696_699.out;have hns37_1:=NB697_699.out;have hms37_0:=NB699_696.out;have hms37_1:=NB699_697.out;refine sk ?_;refine hK.out _ _ ?_;clear hK K;refine done_ (done_of HT_.out (by kernel_rfl)) ?_;try go_wp2
    go_roundg k1;case measure=>have:=HK1.out;omega
    case rel=>exact ⟨(wrap64 (x9_1 + 1)),(y702),(x700b_1),(.slice Ao36 y702.length co36),(u700001),rv,H',⟨by have:=HK1.out;omega⟩,(ra (Kd.R_mono (Kd.R_far (p:=⟨gb699,0,none⟩) (Kd.R_types HO704.out BK699.out (by decide)) (fun _ hk=>hk.2) (.slice Ao36 y702.length co36)) (fun _ hk=>hk.1))),(ra (Kd.R_mono (Kd.R_far (p:=⟨gb699,0,none⟩) (Kd.R_types HO_700001.out BK699.out (by decide)) (fun _ hk=>hk.2) (.slice Ao36 y702.length co36)) (fun _ hk=>hk.1.2))),bk BK696,bk BK697,(bA BK699),bh HB⟩
   rw [if_pos c19] at H;have c19b0:decide (0 < a1)=true:=decide_eq_true c19;clear c19;replace H:=bnd H;obtain ⟨t705,A20,H⟩:=H;replace H:=ifn H;obtain ⟨c21,H⟩:=H;have LMc21:=am c21;clear c21;obtain ⟨y706,hy706⟩:∃ y_:List Int,y_=(x700b_1 ++ [t705]):=⟨_,rfl⟩
   replace H:(spec_EdgesOf.l0 k1 a1 a2 (wrap64 (x9_1 + 1)) a0_0 a0_1 a0_2 y702 y706 (-1))=some (r1,r2,r3,r4):=by subst hy706;exact H
   have Ny706:=am hy706;clear hy706;have H':=am H;clear H;try go_wp2
   replace HO_700000:=am (Kd.R_drew HO_700000.out);replace HO_700001:=am (Kd.R_drew HO_700001.out);replace BK696:=am (blk_drew BK696.out);replace BK697:=am (blk_drew BK697.out);replace BK699:=am (blk_drew BK699.out);replace HB:=am (below_drew1 HB.out);refine start_ (n:=13) (S:=fun w'=>w'.cell? ⟨gb699,0,none⟩=some (u700000)∧w'.cell? ⟨gb699,1,none⟩=some (u700001)∧w'.cell? ⟨gb699,2,none⟩=some (.int .i64 (-1))∧w'.cell? ⟨gb696,0,none⟩=some (.int .i64 a0_0)∧w'.cell? ⟨gb696,1,none⟩=some (.int .i64 a0_1)∧w'.cell? ⟨gb696,2,none⟩=some (.string a0_2)) (ds:=[12]) (ba 13 0) (by kernel_rfl) rfl rfl ⟨bc BK699 0,bc BK699 1,bc BK699 2,bc BK696 0,bc BK696 1,bc BK696 2⟩ (fun hHeld=>?_);refine with_tabW spec_EdgesOf.tab8 spec_EdgesOf.bits8 (fun HT_ HW_=>?_);generalize wr.drew=w22 at HO_700000 HO_700001 BK696 BK697 BK699 HB hHeld ⊢;refine pu 0 23 (ba 13 1) ?_;refine pu 3 26 (ba 13 9) ?_;refine pu 4 27 (ba 13 25) ?_;refine pu 5 28 (ba 13 57) ?_;refine pu 6 29 (ba 13 121) ?_;refine pu 7 30 (ba 13 249) ?_;refine tk 1 24 (ba 13 251) hHeld ?_;refine tk 2 25 (ba 13 255) hHeld ?_;refine on 8 31 (ba 13 511) (fun K hK=>?_);refine gS Tryz.func70 #[.agg #[.int .i64 a0_0,.int .i64 a0_1,.string a0_2],.int .i64 (wrap64 (a1 + x9_1)),.int .i64 (wrap64 (a2 - 1))] ?_
   with_reducible refine (spec_DotAt.calls k1 a0_0 a0_1 a0_2 (wrap64 (a1 + x9_1)) (wrap64 (a2 - 1)) t701 _ A17.out).mono ?_
   rintro e w23 ⟨rfl,hb⟩;refine ⟨_,rfl,?_⟩;replace HO_700000:=am (Kd.R_below (ro HO_700000.out) hb);replace HO_700001:=am (Kd.R_below (ro HO_700001.out) hb);replace BK696:=bb BK696 hb;replace BK697:=bb BK697 hb;replace BK699:=bb BK699 hb;replace HB:=bs HB hb;(try clear hb)
   (try clear hb2)
   (try clear hk)
   (try clear hi)
   refine hK.out _ _ ⟨bc BK699 0,bc BK699 1,bc BK699 2,bc BK696 0,bc BK696 1,bc BK696 2⟩ (fun hHeld=>?_);clear hK K;refine nm ?_;refine on 9 32 (ba 13 1023) (fun K hK=>?_);refine value_ (w1:=?_) (v:=?_) (by rfl) rfl ?_ ?_;rotate_left 2
   ·go_simp
    constructor
    ·rfl
    ·rfl
   refine hK.out _ _ ⟨(blk_cell (blk_alloc BK699.out _) 0).trans rfl,(blk_cell (blk_alloc BK699.out _) 1).trans rfl,(blk_cell (blk_alloc BK699.out _) 2).trans rfl,(blk_cell (blk_alloc BK696.out _) 0).trans rfl,(blk_cell (blk_alloc BK696.out _) 1).trans rfl,(blk_cell (blk_alloc BK696.out _) 2).trans rfl⟩ (fun hHeld=>?_);clear hK K;refine nm ?_;refine on 10 33 (ba 13 2047) (fun K hK=>?_);refine Kd.R_append_step (Kd.int .i64) (w0:=w) w.heap.size (by rfl) (.tmp 24) (.tmp 32) 33 3 (.int .i64 0) 8 rfl Tryz.underlying33 info3 rfl (by decide) (by omega) u700000 x700a_1 t701 [.int .i64 t701] (fun k_=>some k_≠(u700001:Value).ownBlock) (fun _=>False) rfl rfl ?aP (fun _ hk=>hk.elim) ?aF ?aO ?aB ?aS ?aL ?_;(case aP=>exact rfl)
   (case aB=>exact (bo HB))
   (case aF=>exact (fun k_ hk=>Kd.fresh' (Kd.R_lt (ro HO_700001.out)) k_ hk))
   (case aO=>exact (ro HO_700000.out))
   (case aS=>exact (below_size (bo HB)))
   (case aL=>have:=LMc18.out;omega)
   intro v703 w24 ho hb hg hat;rw [← Ny702.out] at ho;have HO704:=am (ho);replace HO_700001:=am (Kd.R_after (ok:=(fun _=>True)) (ro (Kd.R_mono HO_700001.out (fun _ hk=>⟨trivial,hk⟩))) hg hat);replace BK696:=am (blk_grown (bt BK696) hg (Kd.R_ne HO_700000.out BK696.out (by decide)));replace BK697:=am (blk_grown (bt BK697) hg (Kd.R_ne HO_700000.out BK697.out (by decide)));replace BK699:=am (blk_grown (bt BK699) hg (Kd.R_ne HO_700000.out BK699.out (by decide)));replace HB:=am (hb);clear HO_700000;clear ho hb hg hat;obtain ⟨Ao25,co25,eo25⟩:=Kd.R_slice HO704.out;(first | subst eo25|(injection eo25 with f1_ f2_ f3_;have f4_:=f1_.symm;have f5_:=f3_.symm;clear f1_ f2_ f3_;subst f4_;subst f5_))
   refine hK.out _ _ ⟨bc BK699 0,bc BK699 1,bc BK699 2,bc BK696 0,bc BK696 1,bc BK696 2⟩ (fun hHeld=>?_);clear hK K;refine nm ?_;refine pu 11 34 (ba 13 4095) ?_;refine last_ (i:=12) (N:=none) (ba 13 8191) rfl rfl (one_of HT_.out (by kernel_rfl)) (by decide) (fun K hK=>?_);have hs26:w24.cell? ⟨gb699,0,none⟩=some (u700000):=bc BK699 0;have hfs26:=blk_frozen BK699.out 0;have hns26_0:=NB696_699.out;have hns26_1:=NB697_699.out;have hms26_0:=NB699_696.out;have hms26_1:=NB699_697.out;refine sk ?_;refine hK.out _ _ ?_;clear hK K;refine done_ (done_of HT_.out (by kernel_rfl)) ?_;try go_wp2
   have n0_:Aside0 (Kd.R (Kd.int .i64) 3 (w24.setCell ⟨gb699,0,none⟩ (.slice Ao25 y702.length co25)) w.heap.size (fun k_=>some k_≠(.slice Ao25 y702.length co25:Value).ownBlock) u700001 x700b_1):=(ra (Kd.R_mono (Kd.R_far (p:=⟨gb699,0,none⟩) (Kd.R_types HO_700001.out BK699.out (by decide)) (fun _ hk=>hk.2) (.slice Ao25 y702.length co25)) (fun _ hk=>hk.1.2)))
   have n1_:Aside0 (Kd.R (Kd.int .i64) 3 (w24.setCell ⟨gb699,0,none⟩ (.slice Ao25 y702.length co25)) w.heap.size (fun k_=>some k_≠(u700001:Value).ownBlock) (.slice Ao25 y702.length co25) y702):=(ra (Kd.R_mono (Kd.R_far (p:=⟨gb699,0,none⟩) (Kd.R_types HO704.out BK699.out (by decide)) (fun _ hk=>hk.2) (.slice Ao25 y702.length co25)) (fun _ hk=>hk.1)))
   have n2_:Aside0 ((w24.setCell ⟨gb699,0,none⟩ (.slice Ao25 y702.length co25)).heap[gb696]?=some (.cells #[.int .i64 a0_0,.int .i64 a0_1,.string a0_2] 25 (0,0))):=bk BK696;have n3_:Aside0 ((w24.setCell ⟨gb699,0,none⟩ (.slice Ao25 y702.length co25)).heap[gb697]?=some (.cells #[.slice none 0 0,.slice none 0 0,.int .i64 0] 69 (0,0))):=bk BK697;have n4_:Aside0 ((w24.setCell ⟨gb699,0,none⟩ (.slice Ao25 y702.length co25)).heap[gb699]?=some (.cells #[.slice Ao25 y702.length co25,u700001,.int .i64 (-1)] 69 (0,0))):=(bA BK699)
   have n5_:Aside0 (Below w.heap.size w (w24.setCell ⟨gb699,0,none⟩ (.slice Ao25 y702.length co25))):=bh HB;(try clear HO_700001)
   (try clear HO704)
   (try clear BK696)
   (try clear BK697)
   (try clear BK699)
   (try clear HB)
   generalize (w24.setCell ⟨gb699,0,none⟩ (.slice Ao25 y702.length co25))=w27 at n0_ n1_ n2_ n3_ n4_ n5_ ⊢;have HO_700001:=n0_;have HO704:=n1_;have BK696:=n2_;have BK697:=n3_;have BK699:=n4_;have HB:=n5_;clear n0_ n1_ n2_ n3_ n4_ n5_;replace HO_700001:=am (Kd.R_drew HO_700001.out);replace HO704:=am (Kd.R_drew HO704.out);replace BK696:=am (blk_drew BK696.out);replace BK697:=am (blk_drew BK697.out);replace BK699:=am (blk_drew BK699.out);replace HB:=am (below_drew1 HB.out);refine start_ (n:=13) (S:=fun w'=>w'.cell? ⟨gb699,0,none⟩=some (.slice Ao25 y702.length co25)∧w'.cell? ⟨gb699,1,none⟩=some (u700001)∧w'.cell? ⟨gb699,2,none⟩=some (.int .i64 (-1))∧w'.cell? ⟨gb696,0,none⟩=some (.int .i64 a0_0)∧w'.cell? ⟨gb696,1,none⟩=some (.int .i64 a0_1)∧w'.cell? ⟨gb696,2,none⟩=some (.string a0_2)) (ds:=[12]) (ba 13 0) (by kernel_rfl) rfl rfl ⟨bc BK699 0,bc BK699 1,bc BK699 2,bc BK696 0,bc BK696 1,bc BK696 2⟩ (fun hHeld=>?_);refine with_tabW spec_EdgesOf.tab10 spec_EdgesOf.bits10 (fun HT_ HW_=>?_);generalize w27.drew=w28 at HO_700001 HO704 BK696 BK697 BK699 HB hHeld ⊢;refine pu 0 37 (ba 13 1) ?_;refine pu 3 40 (ba 13 9) ?_;refine pu 4 41 (ba 13 25) ?_;refine pu 5 42 (ba 13 57) ?_;refine pu 6 43 (ba 13 121) ?_;refine pu 7 44 (ba 13 249) ?_;refine tk 1 38 (ba 13 251) hHeld ?_;refine tk 2 39 (ba 13 255) hHeld ?_;refine on 8 45 (ba 13 511) (fun K hK=>?_);refine gS Tryz.func70 #[.agg #[.int .i64 a0_0,.int .i64 a0_1,.string a0_2],.int .i64 (wrap64 (a1 - 1)),.int .i64 (wrap64 (a2 + x9_1))] ?_
   with_reducible refine (spec_DotAt.calls k1 a0_0 a0_1 a0_2 (wrap64 (a1 - 1)) (wrap64 (a2 + x9_1)) t705 _ A20.out).mono ?_
   rintro e w29 ⟨rfl,hb⟩;refine ⟨_,rfl,?_⟩;replace HO_700001:=am (Kd.R_below (ro HO_700001.out) hb);replace HO704:=am (Kd.R_below (ro HO704.out) hb);replace BK696:=bb BK696 hb;replace BK697:=bb BK697 hb;replace BK699:=bb BK699 hb;replace HB:=bs HB hb;(try clear hb)
   (try clear hb2)
   (try clear hk)
   (try clear hi)
   refine hK.out _ _ ⟨bc BK699 0,bc BK699 1,bc BK699 2,bc BK696 0,bc BK696 1,bc BK696 2⟩ (fun hHeld=>?_);clear hK K;refine nm ?_;refine on 9 46 (ba 13 1023) (fun K hK=>?_);refine value_ (w1:=?_) (v:=?_) (by rfl) rfl ?_ ?_;rotate_left 2
   ·go_simp
    constructor
    ·rfl
    ·rfl
   refine hK.out _ _ ⟨(blk_cell (blk_alloc BK699.out _) 0).trans rfl,(blk_cell (blk_alloc BK699.out _) 1).trans rfl,(blk_cell (blk_alloc BK699.out _) 2).trans rfl,(blk_cell (blk_alloc BK696.out _) 0).trans rfl,(blk_cell (blk_alloc BK696.out _) 1).trans rfl,(blk_cell (blk_alloc BK696.out _) 2).trans rfl⟩ (fun hHeld=>?_);clear hK K;refine nm ?_;refine on 10 47 (ba 13 2047) (fun K hK=>?_);refine Kd.R_append_step (Kd.int .i64) (w0:=w) w.heap.size (by rfl) (.tmp 38) (.tmp 46) 33 3 (.int .i64 0) 8 rfl Tryz.underlying33 info3 rfl (by decide) (by omega) u700001 x700b_1 t705 [.int .i64 t705] (fun k_=>some k_≠(.slice Ao25 y702.length co25:Value).ownBlock) (fun _=>False) rfl rfl ?aP (fun _ hk=>hk.elim) ?aF ?aO ?aB ?aS ?aL ?_;(case aP=>exact rfl)
   (case aB=>exact (bo HB))
   (case aF=>exact (fun k_ hk=>Kd.fresh' (Kd.R_lt (ro HO704.out)) k_ hk))
   (case aO=>exact (ro HO_700001.out))
   (case aS=>exact (below_size (bo HB)))
   (case aL=>have:=LMc21.out;omega)
   intro v707 w30 ho hb hg hat;rw [← Ny706.out] at ho;have HO708:=am (ho);replace BK696:=am (blk_grown (bt BK696) hg (Kd.R_ne HO_700001.out BK696.out (by decide)));replace BK697:=am (blk_grown (bt BK697) hg (Kd.R_ne HO_700001.out BK697.out (by decide)));replace BK699:=am (blk_grown (bt BK699) hg (Kd.R_ne HO_700001.out BK699.out (by decide)));replace HO704:=am (Kd.R_after (ok:=(fun _=>True)) (ro (Kd.R_mono HO704.out (fun _ hk=>⟨trivial,hk⟩))) hg hat);replace HB:=am (hb);clear HO_700001;clear ho hb hg hat;obtain ⟨Ao31,co31,eo31⟩:=Kd.R_slice HO708.out;(first | subst eo31|(injection eo31 with f1_ f2_ f3_;have f4_:=f1_.symm;have f5_:=f3_.symm;clear f1_ f2_ f3_;subst f4_;subst f5_))
   refine hK.out _ _ ⟨bc BK699 0,bc BK699 1,bc BK699 2,bc BK696 0,bc BK696 1,bc BK696 2⟩ (fun hHeld=>?_);clear hK K;refine nm ?_;refine pu 11 48 (ba 13 4095) ?_;refine last_ (i:=12) (N:=none) (ba 13 8191) rfl rfl (one_of HT_.out (by kernel_rfl)) (by decide) (fun K hK=>?_);have hs32:w30.cell? ⟨gb699,1,none⟩=some (u700001):=bc BK699 1;have hfs32:=blk_frozen BK699.out 1;have hns32_0:=NB696_699.out;have hns32_1:=NB697_699.out;have hms32_0:=NB699_696.out;have hms32_1:=NB699_697.out;refine sk ?_;refine hK.out _ _ ?_;clear hK K;refine done_ (done_of HT_.out (by kernel_rfl)) ?_;try go_wp2
   go_roundg k1;case measure=>have:=HK1.out;omega
   case rel=>exact ⟨(wrap64 (x9_1 + 1)),(y702),(y706),(.slice Ao25 y702.length co25),(.slice Ao31 y706.length co31),rv,H',⟨by have:=HK1.out;omega⟩,(ra (Kd.R_mono (Kd.R_far (p:=⟨gb699,1,none⟩) (Kd.R_types HO704.out BK699.out (by decide)) (fun _ hk=>hk.2) (.slice Ao31 y706.length co31)) (fun _ hk=>hk.1.2))),(ra (Kd.R_mono (Kd.R_far (p:=⟨gb699,1,none⟩) (Kd.R_types HO708.out BK699.out (by decide)) (fun _ hk=>hk.2) (.slice Ao31 y706.length co31)) (fun _ hk=>hk.1))),bk BK696,bk BK697,(bA BK699),bh HB⟩
mutual
def spec_ScanAt.j0:Nat→Int→Int→Bool→Option (Int)
 | 0,_,_,_=>none
 | k + 1,x0,x1,x25=>if x25=true then (some (-1)) else (spec_ScanAt.l0 k x0 x1 0 0)
def spec_ScanAt.l0:Nat→Int→Int→Int→Int→Option (Int)
 | 0,_,_,_,_=>none
 | k + 1,x0,x1,x5,x6=>if x6≤(wrap64 ((wrap64 (2 * x0)) - 2)) then (spec_ScanAt.l1 k x0 x1 x5 x6 0) else (some (-1))
def spec_ScanAt.l1:Nat→Int→Int→Int→Int→Int→Option (Int)
 | 0,_,_,_,_,_=>none
 | k + 1,x0,x1,x5,x6,x7=>if x7 < x0 then (if (Int.tmod x6 2)=0 then (spec_ScanAt.j3 k x0 x1 x5 x6 x7 (wrap64 ((wrap64 (x0 - 1)) - x7))) else (spec_ScanAt.j3 k x0 x1 x5 x6 x7 x7)) else (spec_ScanAt.l0 k x0 x1 x5 (wrap64 (x6 + 1)))
def spec_ScanAt.j3:Nat→Int→Int→Int→Int→Int→Int→Option (Int)
 | 0,_,_,_,_,_,_=>none
 | k + 1,x0,x1,x5,x6,x7,x8=>(spec_l01In.f (wrap64 (x6 - x8)) 0 (wrap64 (x0 - 1))).bind fun t713=>(if t713=true then (if x5=x1 then (some (wrap64 ((wrap64 ((wrap64 (x0 * x8)) + x6)) - x8))) else (spec_ScanAt.l1 k x0 x1 (wrap64 (x5 + 1)) x6 (wrap64 (x7 + 1)))) else (spec_ScanAt.l1 k x0 x1 x5 x6 (wrap64 (x7 + 1))))
end
def spec_ScanAt.f (k:Nat) (a0:Int) (a1:Int):Option (Int):=if a0=4 then (if a1 < 0 then (spec_ScanAt.j0 k a0 a1 true) else (spec_ScanAt.j0 k a0 a1 (decide (a1 ≥ (wrap64 (a0 * a0)))))) else (if a0=8 then (if a1 < 0 then (spec_ScanAt.j0 k a0 a1 true) else (spec_ScanAt.j0 k a0 a1 (decide (a1 ≥ (wrap64 (a0 * a0)))))) else (spec_ScanAt.j0 k a0 a1 true))
theorem spec_ScanAt.mono_l:∀ k,(∀ y0 y1 y2,LeO (spec_ScanAt.j0 k y0 y1 y2) (spec_ScanAt.j0 (k + 1) y0 y1 y2))∧(∀ y0 y1 y2 y3,LeO (spec_ScanAt.l0 k y0 y1 y2 y3) (spec_ScanAt.l0 (k + 1) y0 y1 y2 y3))∧(∀ y0 y1 y2 y3 y4,LeO (spec_ScanAt.l1 k y0 y1 y2 y3 y4) (spec_ScanAt.l1 (k + 1) y0 y1 y2 y3 y4))∧(∀ y0 y1 y2 y3 y4 y5,LeO (spec_ScanAt.j3 k y0 y1 y2 y3 y4 y5) (spec_ScanAt.j3 (k + 1) y0 y1 y2 y3 y4 y5))
 | 0=>⟨fun _ _ _ r h=>by simp [spec_ScanAt.j0] at h,fun _ _ _ _ r h=>by simp [spec_ScanAt.l0] at h,fun _ _ _ _ _ r h=>by simp [spec_ScanAt.l1] at h,fun _ _ _ _ _ _ r h=>by simp [spec_ScanAt.j3] at h⟩
 | k + 1=>by
  obtain ⟨ih0,ih1,ih2,ih3⟩:=spec_ScanAt.mono_l k;refine ⟨?_,?_,?_,?_⟩
  ·intro y0 y1 y2;unfold spec_ScanAt.j0
   repeat' first
   | (with_reducible exact ih0 _ _ _)
   | (with_reducible exact ih1 _ _ _ _)
   | (with_reducible exact ih2 _ _ _ _ _)
   | (with_reducible exact ih3 _ _ _ _ _ _)
   | (with_reducible exact LeO.refl _)
   | (with_reducible exact LeO.none _)
   | (with_reducible refine LeO.ite ?_ ?_)
   | (with_reducible refine LeO.bind ?_ (fun _=>?_))
   | exact ih0 _ _ _
   | exact ih1 _ _ _ _
   | exact ih2 _ _ _ _ _
   | exact ih3 _ _ _ _ _ _
   | exact LeO.none _
   | refine LeO.ite ?_ ?_
   | refine LeO.bind ?_ (fun _=>?_)
  ·intro y0 y1 y2 y3;unfold spec_ScanAt.l0
   repeat' first
   | (with_reducible exact ih0 _ _ _)
   | (with_reducible exact ih1 _ _ _ _)
   | (with_reducible exact ih2 _ _ _ _ _)
   | (with_reducible exact ih3 _ _ _ _ _ _)
   | (with_reducible exact LeO.refl _)
   | (with_reducible exact LeO.none _)
   | (with_reducible refine LeO.ite ?_ ?_)
   | (with_reducible refine LeO.bind ?_ (fun _=>?_))
   | exact ih0 _ _ _
   | exact ih1 _ _ _ _
   | exact ih2 _ _ _ _ _
   | exact ih3 _ _ _ _ _ _
   | exact LeO.none _
   | refine LeO.ite ?_ ?_
   | refine LeO.bind ?_ (fun _=>?_)
  ·intro y0 y1 y2 y3 y4;unfold spec_ScanAt.l1
   repeat' first
   | (with_reducible exact ih0 _ _ _)
   | (with_reducible exact ih1 _ _ _ _)
   | (with_reducible exact ih2 _ _ _ _ _)
   | (with_reducible exact ih3 _ _ _ _ _ _)
   | (with_reducible exact LeO.refl _)
   | (with_reducible exact LeO.none _)
   | (with_reducible refine LeO.ite ?_ ?_)
   | (with_reducible refine LeO.bind ?_ (fun _=>?_))
   | exact ih0 _ _ _
   | exact ih1 _ _ _ _
   | exact ih2 _ _ _ _ _
   | exact ih3 _ _ _ _ _ _
   | exact LeO.none _
   | refine LeO.ite ?_ ?_
   | refine LeO.bind ?_ (fun _=>?_)
  ·intro y0 y1 y2 y3 y4 y5;unfold spec_ScanAt.j3
   repeat' first
   | (with_reducible exact ih0 _ _ _)
   | (with_reducible exact ih1 _ _ _ _)
   | (with_reducible exact ih2 _ _ _ _ _)
   | (with_reducible exact ih3 _ _ _ _ _ _)
   | (with_reducible exact LeO.refl _)
   | (with_reducible exact LeO.none _)
   | (with_reducible refine LeO.ite ?_ ?_)
   | (with_reducible refine LeO.bind ?_ (fun _=>?_))
   | exact ih0 _ _ _
   | exact ih1 _ _ _ _
   | exact ih2 _ _ _ _ _
   | exact ih3 _ _ _ _ _ _
   | exact LeO.none _
   | refine LeO.ite ?_ ?_
   | refine LeO.bind ?_ (fun _=>?_)
theorem spec_ScanAt.mono:∀ a0 a1 k,LeO (spec_ScanAt.f k a0 a1) (spec_ScanAt.f (k + 1) a0 a1):=by
 intro a0 a1 k;obtain ⟨ih0,ih1,ih2,ih3⟩:=spec_ScanAt.mono_l k;unfold spec_ScanAt.f
 repeat' first
   | (with_reducible exact ih0 _ _ _)
   | (with_reducible exact ih1 _ _ _ _)
   | (with_reducible exact ih2 _ _ _ _ _)
   | (with_reducible exact ih3 _ _ _ _ _ _)
   | (with_reducible exact LeO.refl _)
   | (with_reducible exact LeO.none _)
   | (with_reducible refine LeO.ite ?_ ?_)
   | (with_reducible refine LeO.bind ?_ (fun _=>?_))
   | exact ih0 _ _ _
   | exact ih1 _ _ _ _
   | exact ih2 _ _ _ _ _
   | exact ih3 _ _ _ _ _ _
   | exact LeO.none _
   | refine LeO.ite ?_ ?_
   | refine LeO.bind ?_ (fun _=>?_)
theorem spec_ScanAt.calls (k:Nat) (a0:Int) (a1:Int) (r:Int) (w:World) (h:spec_ScanAt.f k a0 a1=some r) :
  Calls Tryz.prog 90 #[.int .i64 a0,.int .i64 a1] w fun e w'=>e=.returned (.int .i64 r)∧Drawn0 w w':=by
 have H:=h;clear h;unfold spec_ScanAt.f at H;have HC3:=am H;clear H;go_enter Tryz.func90,Tryz.ntmps90;go_upto_region 1 with (fail)
 go_cut [25] (fun v25 wc=>∃ (kq:Nat) (x25_2:Bool),v25=.bool x25_2∧Aside0 (spec_ScanAt.j0 kq a0 a1 x25_2=some r)∧Aside0 (kq≤k)∧Drawn0 w wc)
 case first =>
  have H:=HC3.out;clear HC3;replace H:=ife H;rcases H with ⟨-,c4b0,c4b1,H⟩ | ⟨c4,c4b0,c4b1,H⟩
  ·(first | rw [c4b0]|(simp only [i64_w,i32_w];rw [c4b0]) | skip)
   replace H:=ifd H;rcases H with ⟨c5b0,H⟩ | ⟨c5b0,H⟩
   ·have H':=am H;clear H;go_wp2;go_meet;case rel=>exact ⟨_,(true),rv,H',om,dr⟩
   ·have H':=am H;clear H;go_wp2;go_meet;case rel=>exact ⟨_,(decide (a1 ≥ (wrap64 (a0 * a0)))),rv,H',om,dr⟩
  ·(first | rw [c4b0]|(simp only [i64_w,i32_w];rw [c4b0]) | skip)
   replace H:=ife H;rcases H with ⟨-,c6b0,c6b1,H⟩ | ⟨c6,c6b0,c6b1,H⟩
   ·replace H:=ifd H;rcases H with ⟨c7b0,H⟩ | ⟨c7b0,H⟩
    ·have H':=am H;clear H;go_wp2;go_meet;case rel=>exact ⟨_,(true),rv,H',om,dr⟩
    ·have H':=am H;clear H;go_wp2;go_meet;case rel=>exact ⟨_,(decide (a1 ≥ (wrap64 (a0 * a0)))),rv,H',om,dr⟩
   ·have H':=am H;clear H;go_wp2;go_meet;case rel=>exact ⟨_,(true),rv,H',om,dr⟩
 case rest =>
  clear HC3;obtain ⟨kq,x25_2,rfl,HA,HJ2,⟨mc2,rfl⟩⟩:=hcut;cases kq with
  | zero=>exact absurd HA.out (by simp [spec_ScanAt.j0])
  | succ kj2 =>
   have H:=HA.out;clear HA;simp only [spec_ScanAt.j0] at H;replace H:=ifb H;rcases H with ⟨rfl,H⟩ | ⟨rfl,H⟩
   ·obtain rfl:=sj H;go_wp2;go_ret;exact ⟨rv,dr⟩
   ·have H':=am H;clear H;go_wp2;go_loopg [5,6] kj2 (fun kq v5 v6 w'=>∃ (x5_2:Int) (x6_2:Int),v5=.int .i64 x5_2∧v6=.int .i64 x6_2∧Aside0 (spec_ScanAt.l0 kq a0 a1 x5_2 x6_2=some r)∧Aside0 (kq≤kj2)∧Drawn0 w w')
    case atStart=>exact ⟨(0),(0),rv,rv,H',⟨Nat.le_refl _⟩,dr⟩
    case round =>
     clear H';obtain ⟨x5_2,x6_2,rfl,rfl,HA,HK2,⟨m2,rfl⟩⟩:=hrel;cases gk with
     | zero=>exact absurd HA.out (by simp [spec_ScanAt.l0])
     | succ k2 =>
      have H:=HA.out;clear HA;simp only [spec_ScanAt.l0] at H;replace H:=ifd H;rcases H with ⟨c9b0,H⟩ | ⟨c9b0,H⟩;rotate_left
      ·obtain rfl:=sj H;go_wp2;go_ret;exact ⟨rv,dr⟩
      have H':=am H;clear H;go_wp2;go_loopg [5,7] k2 (fun kq v5 v7 w'=>∃ (x5_3:Int) (x7_3:Int),v5=.int .i64 x5_3∧v7=.int .i64 x7_3∧Aside0 (spec_ScanAt.l1 kq a0 a1 x5_3 x6_2 x7_3=some r)∧Aside0 (kq≤k2)∧Drawn0 w w')
      case atStart=>exact ⟨(x5_2),(0),rv,rv,H',⟨Nat.le_refl _⟩,dr⟩
      case round =>
       clear H';obtain ⟨x5_3,x7_3,rfl,rfl,HA,HK3,⟨m3,rfl⟩⟩:=hrel;cases gk with
       | zero=>exact absurd HA.out (by simp [spec_ScanAt.l1])
       | succ k3 =>
        have H:=HA.out;clear HA;simp only [spec_ScanAt.l1] at H;replace H:=ifd H;rcases H with ⟨c10b0,H⟩ | ⟨c10b0,H⟩;rotate_left
        ·have H':=am H;clear H;go_wp2;go_roundg k3;case measure=>have:=HJ2.out;have:=HK2.out;have:=HK3.out;omega
         case rel=>exact ⟨(x5_3),(wrap64 (x6_2 + 1)),rv,rv,H',⟨by have:=HJ2.out;have:=HK2.out;have:=HK3.out;omega⟩,dr⟩
        have HC11:=am H;clear H;go_upto_if 41 with (fail)
        go_cut [8] (fun v8 wc=>∃ (kq:Nat) (x8_10:Int),v8=.int .i64 x8_10∧Aside0 (spec_ScanAt.j3 kq a0 a1 x5_3 x6_2 x7_3 x8_10=some r)∧Aside0 (kq≤k3)∧Drawn0 w wc)
        case first =>
         have H:=HC11.out;clear HC11;replace H:=ife H;rcases H with ⟨-,c12b0,c12b1,H⟩ | ⟨c12,c12b0,c12b1,H⟩
         ·(first | rw [c12b0]|(simp only [i64_w,i32_w];rw [c12b0]) | skip)
          have H':=am H;clear H;go_wp2;go_meet;case rel=>exact ⟨_,(wrap64 ((wrap64 (a0 - 1)) - x7_3)),rv,H',⟨by have:=HJ2.out;have:=HK2.out;have:=HK3.out;first | omega | exact Nat.le_refl _⟩,dr⟩
         ·(first | rw [c12b0]|(simp only [i64_w,i32_w];rw [c12b0]) | skip)
          have H':=am H;clear H;go_wp2;go_meet;case rel=>exact ⟨_,(x7_3),rv,H',⟨by have:=HJ2.out;have:=HK2.out;have:=HK3.out;first | omega | exact Nat.le_refl _⟩,dr⟩
        case rest =>
         clear HC11;obtain ⟨kq,x8_10,rfl,HA,HJ10,⟨mc10,rfl⟩⟩:=hcut;cases kq with
         | zero=>exact absurd HA.out (by simp [spec_ScanAt.j3])
         | succ kj10 =>
          have H:=HA.out;clear HA;simp only [spec_ScanAt.j3] at H;replace H:=bnd H;obtain ⟨t713,A13,H⟩:=H;replace H:=ifb H;rcases H with ⟨rfl,H⟩ | ⟨rfl,H⟩
          ·replace H:=ife H;rcases H with ⟨-,c15b0,c15b1,H⟩ | ⟨c15,c15b0,c15b1,H⟩
           ·obtain rfl:=sj H;go_wp2_with (first|((with_reducible refine gc 23 ?_);refine gD (some 51) Tryz.func23 _ (spec_l01In.calls _ _ _ _ _ A13.out) ?_ (hargs:=(by (try simp only [List.map_toArray,List.map_cons,List.map_nil]);first | done | rfl|(rw [show (wrap64 (x6_2 - x8_10))=(x6_2 - x8_10) from by unfold wrap64;omega,show (wrap64 (a0 - 1))=(a0 - 1) from by unfold wrap64;omega];rfl)|(simp only [List.length_drop,List.length_take];rfl)));intro nd));go_ret;exact ⟨rv,dr⟩
           ·have H':=am H;clear H;go_wp2_with (first|((with_reducible refine gc 23 ?_);refine gD (some 51) Tryz.func23 _ (spec_l01In.calls _ _ _ _ _ A13.out) ?_ (hargs:=(by (try simp only [List.map_toArray,List.map_cons,List.map_nil]);first | done | rfl|(rw [show (wrap64 (x6_2 - x8_10))=(x6_2 - x8_10) from by unfold wrap64;omega,show (wrap64 (a0 - 1))=(a0 - 1) from by unfold wrap64;omega];rfl)|(simp only [List.length_drop,List.length_take];rfl)));intro nd));go_roundg kj10;case measure=>have:=HJ2.out;have:=HK2.out;have:=HK3.out;have:=HJ10.out;omega
            case rel=>exact ⟨(wrap64 (x5_3 + 1)),(wrap64 (x7_3 + 1)),rv,rv,H',⟨by have:=HJ2.out;have:=HK2.out;have:=HK3.out;have:=HJ10.out;omega⟩,dr⟩
          ·have H':=am H;clear H;go_wp2_with (first|((with_reducible refine gc 23 ?_);refine gD (some 51) Tryz.func23 _ (spec_l01In.calls _ _ _ _ _ A13.out) ?_ (hargs:=(by (try simp only [List.map_toArray,List.map_cons,List.map_nil]);first | done | rfl|(rw [show (wrap64 (x6_2 - x8_10))=(x6_2 - x8_10) from by unfold wrap64;omega,show (wrap64 (a0 - 1))=(a0 - 1) from by unfold wrap64;omega];rfl)|(simp only [List.length_drop,List.length_take];rfl)));intro nd));go_roundg kj10;case measure=>have:=HJ2.out;have:=HK2.out;have:=HK3.out;have:=HJ10.out;omega
           case rel=>exact ⟨(x5_3),(wrap64 (x7_3 + 1)),rv,rv,H',⟨by have:=HJ2.out;have:=HK2.out;have:=HK3.out;have:=HJ10.out;omega⟩,dr⟩
mutual
def spec_Unscanned.j0:Nat→Int→List Int→Bool→Option (List Int × Bool)
 | 0,_,_,_=>none
 | k + 1,x0,x1,x21=>if x21=true then (some ((([]:List Int)),false)) else (if 0≤(x1.length:Int) then (if ((x1.length:Int):Int).toNat≤35184372088832 then (spec_Unscanned.l0 k x0 x1 (List.replicate ((x1.length:Int):Int).toNat 0) 0) else (none)) else (none))
def spec_Unscanned.l0:Nat→Int→List Int→List Int→Int→Option (List Int × Bool)
 | 0,_,_,_,_=>none
 | k + 1,x0,x1,x6,x7=>if x7 < (wrap64 (x0 * x0)) then ((spec_ScanAt.f k x0 x7).bind fun t720=>(if 0≤x7 then (if x7 < (x1.length:Int) then (if 0≤t720 then (if t720 < (x6.length:Int) then (spec_Unscanned.l0 k x0 x1 (x6.set (t720:Int).toNat (rd x1 x7)) (wrap64 (x7 + 1))) else (none)) else (none)) else (none)) else (none))) else (some (x6,true))
end
def spec_Unscanned.f (k:Nat) (a0:Int) (l1:List Int):Option (List Int × Bool):=if a0=4 then (spec_Unscanned.j0 k a0 l1 ((l1.length:Int) != (wrap64 (a0 * a0)))) else (if a0=8 then (spec_Unscanned.j0 k a0 l1 ((l1.length:Int) != (wrap64 (a0 * a0)))) else (spec_Unscanned.j0 k a0 l1 true))
def spec_Unscanned.T7:Bool × List (List Nat × List Nat):=(true,[([],[]),([],[]),([],[]),([1,2],[1,2]),([],[]),([],[]),([4,5],[4,5]),([6],[6]),([0,3,0,1,2,3,4,5,6,7],[0,3]),([8,7,3,0,1,2,3,4,5,6,7],[7,8])])
def spec_Unscanned.B7:List Nat:=[0,0,0,6,0,0,48,112,255,511]
theorem spec_Unscanned.tab7:rtab .any (opsOf Tryz.f71 7)=spec_Unscanned.T7:=by kernel_rfl
theorem spec_Unscanned.bits7:waitsOk spec_Unscanned.T7.2 spec_Unscanned.B7=true:=by kernel_rfl
theorem spec_Unscanned.calls (k:Nat) (a0:Int) (A1:Option Addr) (c1:Nat) (l1:List Int) (r1:List Int) (r2:Bool) (w:World) (hr1:Kd.C (Kd.int .i64) w A1 l1.length l1) (hc1:l1.length≤c1) (h:spec_Unscanned.f k a0 l1=some (r1,r2)) :
  Calls Tryz.prog 71 #[.int .i64 a0,.slice A1 l1.length c1] w fun e w'=>∃ v0_:Value,e=.returned (.tuple #[v0_,.bool r2])∧Kd.R (Kd.int .i64) 3 w' w.heap.size (fun _=>True) v0_ r1∧Below w.heap.size w w':=by
 have HR1:=am hr1;have HC1:=am hc1;clear hr1 hc1;have HB:=am (Below.refl w.heap.size w);have H:=h;clear h;unfold spec_Unscanned.f at H;have HC3:=am H;clear H;go_enter Tryz.func71,Tryz.ntmps71;go_upto_region 1 with (fail)
 go_cut [21] (fun v21 wc=>∃ (kq:Nat) (x21_2:Bool),v21=.bool x21_2∧Aside0 (spec_Unscanned.j0 kq a0 l1 x21_2=some (r1,r2))∧Aside0 (kq≤k)∧Aside0 (Below w.heap.size w wc))
 case first =>
  have H:=HC3.out;clear HC3;replace H:=ife H;rcases H with ⟨-,c4b0,c4b1,H⟩ | ⟨c4,c4b0,c4b1,H⟩
  ·(first | rw [c4b0]|(simp only [i64_w,i32_w];rw [c4b0]) | skip)
   have H':=am H;clear H;go_wp2;go_meet;case rel=>exact ⟨_,(((l1.length:Int) != (wrap64 (a0 * a0)))),rv,H',om,bh HB⟩
  ·(first | rw [c4b0]|(simp only [i64_w,i32_w];rw [c4b0]) | skip)
   replace H:=ife H;rcases H with ⟨-,c5b0,c5b1,H⟩ | ⟨c5,c5b0,c5b1,H⟩
   ·have H':=am H;clear H;go_wp2;go_meet;case rel=>exact ⟨_,(((l1.length:Int) != (wrap64 (a0 * a0)))),rv,H',om,bh HB⟩
   ·have H':=am H;clear H;go_wp2;go_meet;case rel=>exact ⟨_,(true),rv,H',om,bh HB⟩
 case rest =>
  clear HC3;obtain ⟨kq,x21_2,rfl,HA,HJ2,HB⟩:=hcut;cases kq with
  | zero=>exact absurd HA.out (by simp [spec_Unscanned.j0])
  | succ kj2 =>
   have H:=HA.out;clear HA;simp only [spec_Unscanned.j0] at H;replace H:=ifb H;rcases H with ⟨rfl,H⟩ | ⟨rfl,H⟩
   ·obtain ⟨y714,hy714⟩:∃ y_:List Int,y_=(([]:List Int)):=⟨_,rfl⟩
    replace H:(some (y714,false))=some (r1,r2):=by subst hy714;exact H
    have Ny714:=am hy714;clear hy714;obtain ⟨rfl,rfl⟩:=sj2 H;go_wp2_with (first|((with_reducible refine gd 22 ?_);(try (refine gate_guard (by rfl) ?_;dsimp only));refine Kd.R_lit (Kd.int .i64) _ 3 ?hg (N:=22) ?hd (xs:=([]:List Int)) (inner:=[]) (ok:=fun _=>True) (okp:=fun _=>True) ?hr ?hp (fun _ hk=>hk) trivial (Below.refl _ _) (Nat.le_refl _) (by simp) ?_;(case hd=>rfl);(case hg=>rfl);(case hr=>first|(go_simp;done)|(go_simp;rfl));(case hp=>exact (Reps.none _ _));intro v715 w7 ho8 hb hg_ hnew_;clear hg_ hnew_;(first | rw [← Ny714.out] at ho8|(simp only [Int.reduceToNat] at ho8;rw [← Ny714.out] at ho8));have HO716:=am (Kd.R_lower ho8 (below_size (bo HB)));replace HB:=bs HB hb;clear hb ho8));go_ret2
    exact ⟨_,re,ro HO716.out,bo HB⟩
   ·by_cases c9:0≤(l1.length:Int);rotate_left
    ·rw [if_neg c9] at H;cases H
    rw [if_pos c9] at H;have c9b0:=eq_true c9;have c9b1:=decide_eq_true c9;clear c9;replace H:=ifn H;obtain ⟨c10,H⟩:=H;have c10b0:=eq_true c10;have c10b1:=decide_eq_true c10;clear c10;obtain ⟨y717,hy717⟩:∃ y_:List Int,y_=(List.replicate ((l1.length:Int):Int).toNat 0):=⟨_,rfl⟩
    replace H:(spec_Unscanned.l0 kj2 a0 l1 y717 0)=some (r1,r2):=by subst hy717;exact H
    have Ny717:=am hy717;clear hy717;have H':=am H;clear H;go_wp2_with (first|((with_reducible refine gd 25 ?_);(try (refine gate_guard (by rfl) ?_;dsimp only));refine Kd.R_make (Kd.int .i64) _ 3 rfl (N:=25) rfl 33 _ _ rfl (l1.length:Int) rfl rfl Tryz.underlying33 (.int .i64 0) 8 info3 rfl (by decide) (by omega) 0 (ok:=fun _=>True) (okp:=fun _=>True) rfl (fun _ hk=>hk) trivial (od) (Nat.le_trans (Nat.mul_le_mul_right _ (od:(l1.length:Int).toNat≤35184372088832)) (by omega)) (Below.refl _ _) (Nat.le_refl _) ?_;intro v718 w11 ho12 hb hg_ hnew_;clear hg_ hnew_;(first | rw [← Ny717.out] at ho12|(simp only [Int.reduceToNat] at ho12;rw [← Ny717.out] at ho12));have HO719:=am (Kd.R_lower ho12 (below_size (bo HB)));replace HB:=bs HB hb;clear hb ho12));go_loopg [7] kj2 (fun kq v7 w'=>∃ (x6_2:List Int) (x7_2:Int),v7=.int .i64 x7_2∧Aside0 (spec_Unscanned.l0 kq a0 l1 x6_2 x7_2=some (r1,r2))∧Aside0 (kq≤kj2)∧Aside0 (Kd.R (Kd.int .i64) 3 w' w.heap.size (fun _=>True) v718 x6_2)∧Aside0 (Below w.heap.size w w'))
    case atStart=>exact ⟨(y717),(0),rv,H',⟨Nat.le_refl _⟩,(ra HO719.out),bh HB⟩
    case round =>
     clear H';obtain ⟨x6_2,x7_2,rfl,HA,HK2,HO_6,HB⟩:=hrel;cases gk with
     | zero=>exact absurd HA.out (by simp [spec_Unscanned.l0])
     | succ k2 =>
      have H:=HA.out;clear HA;simp only [spec_Unscanned.l0] at H;replace H:=ifd H;rcases H with ⟨c13b0,H⟩ | ⟨c13b0,H⟩;rotate_left
      ·obtain ⟨rfl,rfl⟩:=sj2 H;go_wp2;go_ret2
       exact ⟨_,re,ro HO_6.out,bo HB⟩
      replace H:=bnd H;obtain ⟨t720,A14,H⟩:=H;replace H:=ifN H;obtain ⟨c15b0,H⟩:=H;replace H:=ifN H;obtain ⟨c16b0,H⟩:=H;replace H:=ifN H;obtain ⟨c17b0,H⟩:=H;replace H:=ifN H;obtain ⟨c18b0,H⟩:=H;obtain ⟨y722,hy722⟩:∃ y_:List Int,y_=(x6_2.set (t720:Int).toNat (rd l1 x7_2)):=⟨_,rfl⟩
      replace H:(spec_Unscanned.l0 k2 a0 l1 y722 (wrap64 (x7_2 + 1)))=some (r1,r2):=by subst hy722;exact H
      have Ny722:=am hy722;clear hy722;have H':=am H;clear H;try go_wp2
      replace HO_6:=am (Kd.R_drew HO_6.out);replace HB:=am (below_drew1 HB.out);have p721:0≤(x7_2:Int):=od;have q721:x7_2 < (l1.length:Int):=od;obtain ⟨ad721,e721,hx721_0⟩:=Kd.at_int HR1.out x7_2 p721 q721;have hw721_0:=hx721_0;cases e721;replace hx721_0:=(HB.out.cell (World.block_lt_of_cell? w _ hx721_0)).trans hx721_0;replace p721:=eq_true p721;replace q721:=eq_true q721;refine start_ (n:=10) (S:=fun w'=>w'.cell? (ad721.add (x7_2).toNat)=some (.int .i64 (rd l1 x7_2))) (ds:=[9]) (ba 10 0) (by kernel_rfl) rfl rfl ((hcl HB hw721_0)) (fun hHeld=>?_);refine with_tabW spec_Unscanned.tab7 spec_Unscanned.bits7 (fun HT_ HW_=>?_);generalize wr.drew=w20 at HO_6 HB hx721_0 hHeld ⊢;refine pu 0 33 (ba 10 1) ?_;refine pu 1 34 (ba 10 3) ?_;refine pu 2 35 (ba 10 7) ?_;refine pu 4 37 (ba 10 23) ?_;refine pu 5 38 (ba 10 55) ?_;refine pu 6 39 (ba 10 119) ?_;refine take_ (i:=7) (N:=some 40) (v:=?_) (a':=?_) (ba 10 247) rfl rfl (take_ofW HT_.out HW_.out (by kernel_rfl)) (fun _ _ _ h=>h) (Or.inl ⟨by rfl,?_⟩) hHeld ?_ ?_;rotate_left
      ·intro w' s0;go_simp
       with_reducible rfl
      rotate_left
      ·simp only [Act.put,List.setIfInBounds_toArray,List.set_cons_zero,List.set_cons_succ,i64_w,i32_w]
       rfl
      refine on 3 36 (ba 10 255) (fun K hK=>?_);refine gS Tryz.func90 #[.int .i64 a0,.int .i64 x7_2] ?_
      with_reducible refine (spec_ScanAt.calls k2 a0 x7_2 t720 _ A14.out).mono ?_
      rintro e w' ⟨rfl,⟨nd,rfl⟩⟩;refine ⟨_,rfl,?_⟩;have p19:0≤(t720:Int):=od;have q19:(t720:Int) < ((x6_2.length:Int):Int):=od;obtain ⟨go19,co19,eo19,gb19,gl19,cl19,HG19⟩:=Kd.R_form HO_6.out (by omega);(first | cases eo19|(injection eo19 with ea_ en_ ec_;(first | subst ea_|(injection ea_ with ea_;subst ea_));subst ec_;clear en_))
      have GB19:=am gb19;have GG19:=am HG19;clear gb19 gl19 HG19;obtain ⟨hx19_0,hf19_0⟩:=Kd.R_celln 0 HO_6.out (t720:Int) p19 q19;replace p19:=eq_true p19;replace q19:=eq_true q19;have HP21:=Kd.R_putn HO_6.out (t720:Int) (rd l1 x7_2);rw [← Ny722.out] at HP21;have HQ21:=am HP21;clear HP21;refine hK.out _ _ ((hcl HB hw721_0)) (fun hHeld=>?_);clear hK K;refine nm ?_;refine pu 8 41 (ba 10 511) ?_;refine last_ (i:=9) (N:=none) (ba 10 1023) rfl rfl (one_of HT_.out (by kernel_rfl)) (by decide) (fun K hK=>?_);refine sk ?_;refine hK.out _ _ ?_;clear hK K;refine done_ (done_of HT_.out (by kernel_rfl)) ?_;try go_wp2
      go_roundg k2;case measure=>have:=HJ2.out;have:=HK2.out;omega
      case rel=>exact ⟨(y722),(wrap64 (x7_2 + 1)),rv,H',⟨by have:=HJ2.out;have:=HK2.out;omega⟩,(ra HQ21.out),bh HB⟩
mutual
def spec_StepOf.j0:Nat→Int→Int→Option (Int)
 | 0,_,_=>none
 | k + 1,x0,x3=>spec_StepOf.l0 k x0 x3 0
def spec_StepOf.l0:Nat→Int→Int→Int→Option (Int)
 | 0,_,_,_=>none
 | k + 1,x0,x3,x4=>if x4 < (wrap64 (Int.tdiv x0 6)) then (spec_StepOf.l0 k x0 (wrap64 (2 * x3)) (wrap64 (x4 + 1))) else (some x3)
end
def spec_StepOf.f (k:Nat) (a0:Int):Option (Int):=(spec_l01In.f a0 0 40).bind fun t723=>(if t723=true then (if (Int.tmod a0 6)=0 then (spec_StepOf.j0 k a0 10) else (if (Int.tmod a0 6)=1 then (spec_StepOf.j0 k a0 11) else (if (Int.tmod a0 6)=2 then (spec_StepOf.j0 k a0 13) else (if (Int.tmod a0 6)=3 then (spec_StepOf.j0 k a0 14) else (if (Int.tmod a0 6)=4 then (spec_StepOf.j0 k a0 16) else (spec_StepOf.j0 k a0 18)))))) else (some 0))
theorem spec_StepOf.mono_l:∀ k,(∀ y0 y1,LeO (spec_StepOf.j0 k y0 y1) (spec_StepOf.j0 (k + 1) y0 y1))∧(∀ y0 y1 y2,LeO (spec_StepOf.l0 k y0 y1 y2) (spec_StepOf.l0 (k + 1) y0 y1 y2))
 | 0=>⟨fun _ _ r h=>by simp [spec_StepOf.j0] at h,fun _ _ _ r h=>by simp [spec_StepOf.l0] at h⟩
 | k + 1=>by
  obtain ⟨ih0,ih1⟩:=spec_StepOf.mono_l k;refine ⟨?_,?_⟩
  ·intro y0 y1;unfold spec_StepOf.j0
   repeat' first
   | (with_reducible exact ih0 _ _)
   | (with_reducible exact ih1 _ _ _)
   | (with_reducible exact LeO.refl _)
   | (with_reducible exact LeO.none _)
   | (with_reducible refine LeO.ite ?_ ?_)
   | (with_reducible refine LeO.bind ?_ (fun _=>?_))
   | exact ih0 _ _
   | exact ih1 _ _ _
   | exact LeO.none _
   | refine LeO.ite ?_ ?_
   | refine LeO.bind ?_ (fun _=>?_)
  ·intro y0 y1 y2;unfold spec_StepOf.l0
   repeat' first
   | (with_reducible exact ih0 _ _)
   | (with_reducible exact ih1 _ _ _)
   | (with_reducible exact LeO.refl _)
   | (with_reducible exact LeO.none _)
   | (with_reducible refine LeO.ite ?_ ?_)
   | (with_reducible refine LeO.bind ?_ (fun _=>?_))
   | exact ih0 _ _
   | exact ih1 _ _ _
   | exact LeO.none _
   | refine LeO.ite ?_ ?_
   | refine LeO.bind ?_ (fun _=>?_)
theorem spec_StepOf.mono:∀ a0 k,LeO (spec_StepOf.f k a0) (spec_StepOf.f (k + 1) a0):=by
 intro a0 k;obtain ⟨ih0,ih1⟩:=spec_StepOf.mono_l k;unfold spec_StepOf.f
 repeat' first
   | (with_reducible exact ih0 _ _)
   | (with_reducible exact ih1 _ _ _)
   | (with_reducible exact LeO.refl _)
   | (with_reducible exact LeO.none _)
   | (with_reducible refine LeO.ite ?_ ?_)
   | (with_reducible refine LeO.bind ?_ (fun _=>?_))
   | exact ih0 _ _
   | exact ih1 _ _ _
   | exact LeO.none _
   | refine LeO.ite ?_ ?_
   | refine LeO.bind ?_ (fun _=>?_)
theorem spec_StepOf.calls (k:Nat) (a0:Int) (r:Int) (w:World) (h:spec_StepOf.f k a0=some r) :
  Calls Tryz.prog 91 #[.int .i64 a0] w fun e w'=>e=.returned (.int .i64 r)∧Drawn0 w w':=by
 have H:=h;clear h;unfold spec_StepOf.f at H;replace H:=bnd H;obtain ⟨t723,A2,H⟩:=H;replace H:=ifb H;rcases H with ⟨rfl,H⟩ | ⟨rfl,H⟩;rotate_left
 ·obtain rfl:=sj H;go_enter Tryz.func91,Tryz.ntmps91;go_wp2_with (first|((with_reducible refine gc 23 ?_);refine gD (some 6) Tryz.func23 _ (spec_l01In.calls _ _ _ _ _ A2.out) ?_;intro nd));go_ret;exact ⟨rv,dr⟩
 have HC4:=am H;clear H;go_enter Tryz.func91,Tryz.ntmps91;go_upto_block 0 with (first|((with_reducible refine gc 23 ?_);refine gD (some 6) Tryz.func23 _ (spec_l01In.calls _ _ _ _ _ A2.out) ?_;intro nd))
 (try simp only [Act.put,List.setIfInBounds_toArray,List.set_cons_zero,List.set_cons_succ])
 go_cut [3] (fun v3 wc=>∃ (kq:Nat) (x3_3:Int),v3=.int .i64 x3_3∧Aside0 (spec_StepOf.j0 kq a0 x3_3=some r)∧Aside0 (kq≤k)∧Drawn0 w wc)
 case first =>
  have H:=HC4.out;clear HC4;replace H:=ife H;rcases H with ⟨-,c5b0,c5b1,H⟩ | ⟨c5,c5b0,c5b1,H⟩
  ·(first | rw [c5b0]|(simp only [i64_w,i32_w];rw [c5b0]) | skip)
   have H':=am H;clear H;go_wp2;go_meet;case rel=>exact ⟨_,(10),rv,H',om,dr⟩
  ·(first | rw [c5b0]|(simp only [i64_w,i32_w];rw [c5b0]) | skip)
   replace H:=ife H;rcases H with ⟨-,c6b0,c6b1,H⟩ | ⟨c6,c6b0,c6b1,H⟩
   ·have H':=am H;clear H;go_wp2;go_meet;case rel=>exact ⟨_,(11),rv,H',om,dr⟩
   ·replace H:=ife H;rcases H with ⟨-,c7b0,c7b1,H⟩ | ⟨c7,c7b0,c7b1,H⟩
    ·have H':=am H;clear H;go_wp2;go_meet;case rel=>exact ⟨_,(13),rv,H',om,dr⟩
    ·replace H:=ife H;rcases H with ⟨-,c8b0,c8b1,H⟩ | ⟨c8,c8b0,c8b1,H⟩
     ·have H':=am H;clear H;go_wp2;go_meet;case rel=>exact ⟨_,(14),rv,H',om,dr⟩
     ·replace H:=ife H;rcases H with ⟨-,c9b0,c9b1,H⟩ | ⟨c9,c9b0,c9b1,H⟩
      ·have H':=am H;clear H;go_wp2;go_meet;case rel=>exact ⟨_,(16),rv,H',om,dr⟩
      ·have H':=am H;clear H;go_wp2;go_meet;case rel=>exact ⟨_,(18),rv,H',om,dr⟩
 case rest =>
  clear HC4;obtain ⟨kq,x3_3,rfl,HA,HJ3,⟨mc3,rfl⟩⟩:=hcut;cases kq with
  | zero=>exact absurd HA.out (by simp [spec_StepOf.j0])
  | succ kj3 =>
   have H:=HA.out;clear HA;simp only [spec_StepOf.j0] at H;have H':=am H;clear H;go_wp2;go_loopg [3,4] kj3 (fun kq v3 v4 w'=>∃ (x3_2:Int) (x4_2:Int),v3=.int .i64 x3_2∧v4=.int .i64 x4_2∧Aside0 (spec_StepOf.l0 kq a0 x3_2 x4_2=some r)∧Aside0 (kq≤kj3)∧Drawn0 w w')
   case atStart=>exact ⟨(x3_3),(0),rv,rv,H',⟨Nat.le_refl _⟩,dr⟩
   case round =>
    clear H';obtain ⟨x3_2,x4_2,rfl,rfl,HA,HK2,⟨m2,rfl⟩⟩:=hrel;cases gk with
    | zero=>exact absurd HA.out (by simp [spec_StepOf.l0])
    | succ k2 =>
     have H:=HA.out;clear HA;simp only [spec_StepOf.l0] at H;replace H:=ifd H;rcases H with ⟨c10b0,H⟩ | ⟨c10b0,H⟩
     ·have H':=am H;clear H;go_wp2;go_roundg k2;case measure=>have:=HJ3.out;have:=HK2.out;omega
      case rel=>exact ⟨(wrap64 (2 * x3_2)),(wrap64 (x4_2 + 1)),rv,rv,H',⟨by have:=HJ3.out;have:=HK2.out;omega⟩,dr⟩
     ·obtain rfl:=sj H;go_wp2;go_ret;exact ⟨rv,dr⟩
def spec_LargeBack.f (k:Nat) (a0:Int) (a1:Int):Option (Int):=(spec_l01In.f a0 (-5000) 5000).bind fun t724=>(if t724=true then ((spec_StepOf.f k a1).bind fun t725=>(some (wrap64 (a0 * t725)))) else (some 0))
theorem spec_LargeBack.calls (k:Nat) (a0:Int) (a1:Int) (r:Int) (w:World) (h:spec_LargeBack.f k a0 a1=some r) :
  Calls Tryz.prog 72 #[.int .i64 a0,.int .i64 a1] w fun e w'=>e=.returned (.int .i64 r)∧Drawn0 w w':=by
 have H:=h;clear h;unfold spec_LargeBack.f at H;replace H:=bnd H;obtain ⟨t724,A3,H⟩:=H;replace H:=ifb H;rcases H with ⟨rfl,H⟩ | ⟨rfl,H⟩
 ·replace H:=bnd H;obtain ⟨t725,A5,H⟩:=H;obtain rfl:=sj H;go_enter Tryz.func72,Tryz.ntmps72;go_wp2_with (first|((with_reducible refine gc 23 ?_);refine gD (some 6) Tryz.func23 _ (spec_l01In.calls _ _ _ _ _ A3.out) ?_;intro nd)|((with_reducible refine gc 91 ?_);refine gD (some 10) Tryz.func91 _ (spec_StepOf.calls k _ _ _ A5.out) ?_;intro nd));go_ret;exact ⟨rv,dr⟩
 ·obtain rfl:=sj H;go_enter Tryz.func72,Tryz.ntmps72;go_wp2_with (first|((with_reducible refine gc 23 ?_);refine gD (some 6) Tryz.func23 _ (spec_l01In.calls _ _ _ _ _ A3.out) ?_;intro nd));go_ret;exact ⟨rv,dr⟩
mutual
def spec_SignOf.j0:Nat→Int→Int→Bool→Option (Int)
 | 0,_,_,_=>none
 | k + 1,x0,x1,x14=>if x14=true then (some 0) else (spec_SignOf.l0 k 1 (Go.bits .and .i64 x0 x1))
def spec_SignOf.l0:Nat→Int→Int→Option (Int)
 | 0,_,_=>none
 | k + 1,x5,x6=>if x6 > 0 then (if (Int.tmod x6 2)=1 then (spec_SignOf.l0 k (wrap64 (-x5)) (wrap64 (Int.tdiv x6 2))) else (spec_SignOf.l0 k x5 (wrap64 (Int.tdiv x6 2)))) else (some x5)
end
def spec_SignOf.f (k:Nat) (a0:Int) (a1:Int):Option (Int):=(spec_l01In.f a0 0 7).bind fun t726=>(if t726=true then ((spec_l01In.f a1 0 7).bind fun t727=>(spec_SignOf.j0 k a0 a1 (!t727))) else (spec_SignOf.j0 k a0 a1 true))
theorem spec_SignOf.mono_l:∀ k,(∀ y0 y1 y2,LeO (spec_SignOf.j0 k y0 y1 y2) (spec_SignOf.j0 (k + 1) y0 y1 y2))∧(∀ y0 y1,LeO (spec_SignOf.l0 k y0 y1) (spec_SignOf.l0 (k + 1) y0 y1))
 | 0=>⟨fun _ _ _ r h=>by simp [spec_SignOf.j0] at h,fun _ _ r h=>by simp [spec_SignOf.l0] at h⟩
 | k + 1=>by
  obtain ⟨ih0,ih1⟩:=spec_SignOf.mono_l k;refine ⟨?_,?_⟩
  ·intro y0 y1 y2;unfold spec_SignOf.j0
   repeat' first
   | (with_reducible exact ih0 _ _ _)
   | (with_reducible exact ih1 _ _)
   | (with_reducible exact LeO.refl _)
   | (with_reducible exact LeO.none _)
   | (with_reducible refine LeO.ite ?_ ?_)
   | (with_reducible refine LeO.bind ?_ (fun _=>?_))
   | exact ih0 _ _ _
   | exact ih1 _ _
   | exact LeO.none _
   | refine LeO.ite ?_ ?_
   | refine LeO.bind ?_ (fun _=>?_)
  ·intro y0 y1;unfold spec_SignOf.l0
   repeat' first
   | (with_reducible exact ih0 _ _ _)
   | (with_reducible exact ih1 _ _)
   | (with_reducible exact LeO.refl _)
   | (with_reducible exact LeO.none _)
   | (with_reducible refine LeO.ite ?_ ?_)
   | (with_reducible refine LeO.bind ?_ (fun _=>?_))
   | exact ih0 _ _ _
   | exact ih1 _ _
   | exact LeO.none _
   | refine LeO.ite ?_ ?_
   | refine LeO.bind ?_ (fun _=>?_)
theorem spec_SignOf.mono:∀ a0 a1 k,LeO (spec_SignOf.f k a0 a1) (spec_SignOf.f (k + 1) a0 a1):=by
 intro a0 a1 k;obtain ⟨ih0,ih1⟩:=spec_SignOf.mono_l k;unfold spec_SignOf.f
 repeat' first
   | (with_reducible exact ih0 _ _ _)
   | (with_reducible exact ih1 _ _)
   | (with_reducible exact LeO.refl _)
   | (with_reducible exact LeO.none _)
   | (with_reducible refine LeO.ite ?_ ?_)
   | (with_reducible refine LeO.bind ?_ (fun _=>?_))
   | exact ih0 _ _ _
   | exact ih1 _ _
   | exact LeO.none _
   | refine LeO.ite ?_ ?_
   | refine LeO.bind ?_ (fun _=>?_)
theorem spec_SignOf.calls (k:Nat) (a0:Int) (a1:Int) (r:Int) (w:World) (h:spec_SignOf.f k a0 a1=some r) :
  Calls Tryz.prog 102 #[.int .i64 a0,.int .i64 a1] w fun e w'=>e=.returned (.int .i64 r)∧Drawn0 w w':=by
 have H:=h;clear h;unfold spec_SignOf.f at H;have HC3:=am H;clear H;go_enter Tryz.func102,Tryz.ntmps102;go_upto_region 1 with (fail)
 go_cut [14] (fun v14 wc=>∃ (kq:Nat) (x14_2:Bool),v14=.bool x14_2∧Aside0 (spec_SignOf.j0 kq a0 a1 x14_2=some r)∧Aside0 (kq≤k)∧Drawn0 w wc)
 case first =>
  have H:=HC3.out;clear HC3;replace H:=bnd H;obtain ⟨t726,A4,H⟩:=H;replace H:=ifb H;rcases H with ⟨rfl,H⟩ | ⟨rfl,H⟩
  ·replace H:=bnd H;obtain ⟨t727,A6,H⟩:=H;have H':=am H;clear H;go_wp2_with (first|((with_reducible refine gc 23 ?_);refine gD (some 8) Tryz.func23 _ (spec_l01In.calls _ _ _ _ _ A4.out) ?_;intro nd)|(go_at_call 23;(with_reducible refine (spec_l01In.calls a1 0 7 t727 _ A6.out).mono ?_);rintro e w' ⟨rfl,⟨nd,rfl⟩⟩));go_meet;case rel=>exact ⟨_,(!t727),rv,H',om,dr⟩
  ·have H':=am H;clear H;go_wp2_with (first|((with_reducible refine gc 23 ?_);refine gD (some 8) Tryz.func23 _ (spec_l01In.calls _ _ _ _ _ A4.out) ?_;intro nd));go_meet;case rel=>exact ⟨_,(true),rv,H',om,dr⟩
 case rest =>
  clear HC3;obtain ⟨kq,x14_2,rfl,HA,HJ2,⟨mc2,rfl⟩⟩:=hcut;cases kq with
  | zero=>exact absurd HA.out (by simp [spec_SignOf.j0])
  | succ kj2 =>
   have H:=HA.out;clear HA;simp only [spec_SignOf.j0] at H;replace H:=ifb H;rcases H with ⟨rfl,H⟩ | ⟨rfl,H⟩
   ·obtain rfl:=sj H;go_wp2;go_ret;exact ⟨rv,dr⟩
   ·have H':=am H;clear H;go_wp2;go_loopg [5,6] kj2 (fun kq v5 v6 w'=>∃ (x5_2:Int) (x6_2:Int),v5=.int .i64 x5_2∧v6=.int .i64 x6_2∧Aside0 (spec_SignOf.l0 kq x5_2 x6_2=some r)∧Aside0 (kq≤kj2)∧Drawn0 w w')
    case atStart=>exact ⟨(1),(Go.bits .and .i64 a0 a1),rv,rv,H',⟨Nat.le_refl _⟩,dr⟩
    case round =>
     clear H';obtain ⟨x5_2,x6_2,rfl,rfl,HA,HK2,⟨m2,rfl⟩⟩:=hrel;cases gk with
     | zero=>exact absurd HA.out (by simp [spec_SignOf.l0])
     | succ k2 =>
      have H:=HA.out;clear HA;simp only [spec_SignOf.l0] at H;by_cases c8:x6_2 > 0;rotate_left
      ·rw [if_neg c8] at H;have c8b0:decide (0 < x6_2)=false:=decide_eq_false c8;clear c8;obtain rfl:=sj H;go_wp2;go_ret;exact ⟨rv,dr⟩
      rw [if_pos c8] at H;have c8b0:decide (0 < x6_2)=true:=decide_eq_true c8;clear c8;replace H:=ife H;rcases H with ⟨-,c9b0,c9b1,H⟩ | ⟨c9,c9b0,c9b1,H⟩
      ·have H':=am H;clear H;go_wp2;go_roundg k2;case measure=>have:=HJ2.out;have:=HK2.out;omega
       case rel=>exact ⟨(wrap64 (-x5_2)),(wrap64 (Int.tdiv x6_2 2)),rv,rv,H',⟨by have:=HJ2.out;have:=HK2.out;omega⟩,dr⟩
      ·have H':=am H;clear H;go_wp2;go_roundg k2;case measure=>have:=HJ2.out;have:=HK2.out;omega
       case rel=>exact ⟨(x5_2),(wrap64 (Int.tdiv x6_2 2)),rv,rv,H',⟨by have:=HJ2.out;have:=HK2.out;omega⟩,dr⟩
def spec_l10Row.l0:Nat→List Int→Int→Int→Int→Int→Option (Int)
 | 0,_,_,_,_,_=>none
 | k + 1,x0,x1,x2,x7,x8=>if x8 < 8 then (if 0≤(wrap64 ((wrap64 (8 * x1)) + x8)) then (if (wrap64 ((wrap64 (8 * x1)) + x8)) < (x0.length:Int) then ((spec_SignOf.f k x2 x8).bind fun t729=>(spec_l10Row.l0 k x0 x1 x2 (wrap64 (x7 + (wrap64 ((rd x0 (wrap64 ((wrap64 (8 * x1)) + x8))) * t729)))) (wrap64 (x8 + 1)))) else (none)) else (none)) else (some x7)
def spec_l10Row.f (k:Nat) (l0:List Int) (a1:Int) (a2:Int):Option (Int):=spec_l10Row.l0 k l0 a1 a2 0 0
def spec_l10Row.T5:Bool × List (List Nat × List Nat):=(true,[([],[]),([],[]),([],[]),([2],[2]),([],[]),([3,4],[3,4]),([1,5],[1,5]),([6],[6]),([],[]),([],[]),([8,9],[8,9]),([7,10],[7,10]),([0,11],[0,11]),([12,10,0,1,2,3,4,5,6,7,8,9,10,11,12],[0,12])])
def spec_l10Row.B5:List Nat:=[0,0,0,4,0,28,62,126,0,0,768,2046,4095,8191]
theorem spec_l10Row.tab5:rtab .any (opsOf Tryz.f101 5)=spec_l10Row.T5:=by kernel_rfl
theorem spec_l10Row.bits5:waitsOk spec_l10Row.T5.2 spec_l10Row.B5=true:=by kernel_rfl
theorem spec_l10Row.calls (k:Nat) (A0:Option Addr) (c0:Nat) (l0:List Int) (a1:Int) (a2:Int) (r:Int) (w:World) (hr0:Kd.C (Kd.int .i64) w A0 l0.length l0) (hc0:l0.length≤c0) (h:spec_l10Row.f k l0 a1 a2=some r) :
  Calls Tryz.prog 101 #[.slice A0 l0.length c0,.int .i64 a1,.int .i64 a2] w fun e w'=>e=.returned (.int .i64 r)∧Below w.heap.size w w':=by
 have HR0:=am hr0;have HC0:=am hc0;clear hr0 hc0;have HB:=am (Below.refl w.heap.size w);have H:=h;clear h;unfold spec_l10Row.f at H;have H':=am H;clear H;go_enter Tryz.func101,Tryz.ntmps101;go_wp2;go_loopg [7,8] k (fun kq v7 v8 w'=>∃ (x7_1:Int) (x8_1:Int),v7=.int .i64 x7_1∧v8=.int .i64 x8_1∧Aside0 (spec_l10Row.l0 kq l0 a1 a2 x7_1 x8_1=some r)∧Aside0 (kq≤k)∧Aside0 (Below w.heap.size w w'))
 case atStart=>exact ⟨(0),(0),rv,rv,H',⟨Nat.le_refl _⟩,bh HB⟩
 case round =>
  clear H';obtain ⟨x7_1,x8_1,rfl,rfl,HA,HK1,HB⟩:=hrel;cases gk with
  | zero=>exact absurd HA.out (by simp [spec_l10Row.l0])
  | succ k1 =>
   have H:=HA.out;clear HA;simp only [spec_l10Row.l0] at H;replace H:=ifd H;rcases H with ⟨c4b0,H⟩ | ⟨c4b0,H⟩;rotate_left
   ·obtain rfl:=sj H;go_wp2;go_ret;exact ⟨re,bo HB⟩
   obtain ⟨ji5,hji5⟩:∃ j_:Int,(wrap64 ((wrap64 (8 * a1)) + x8_1))=j_:=⟨_,rfl⟩
   replace H:(if 0≤(ji5) then (if (ji5) < (l0.length:Int) then ((spec_SignOf.f k1 a2 x8_1).bind fun t729=>(spec_l10Row.l0 k1 l0 a1 a2 (wrap64 (x7_1 + (wrap64 ((rd l0 (ji5)) * t729)))) (wrap64 (x8_1 + 1)))) else (none)) else (none))=some r:=by first|(rw [hji5] at H;exact H)|(simp only [hji5] at H ⊢;exact H)
   have hji5w:(IntKind.i64.wrap ((wrap64 (8 * a1)) + x8_1))=ji5:=(i64_w _).trans hji5;replace H:=ifN H;obtain ⟨c6b0,H⟩:=H;replace H:=ifN H;obtain ⟨c7b0,H⟩:=H;replace H:=bnd H;obtain ⟨t729,A8,H⟩:=H;have H':=am H;clear H;try go_wp2
   replace HB:=am (below_drew1 HB.out);have p728:0≤((ji5):Int):=od;have q728:(ji5) < (l0.length:Int):=od;obtain ⟨ad728,e728,hx728_0⟩:=Kd.at_int HR0.out (ji5) p728 q728;have hw728_0:=hx728_0;cases e728;replace hx728_0:=(HB.out.cell (World.block_lt_of_cell? w _ hx728_0)).trans hx728_0;replace p728:=eq_true p728;replace q728:=eq_true q728;refine start_ (n:=14) (S:=fun w'=>w'.cell? (ad728.add ((ji5)).toNat)=some (.int .i64 (rd l0 (ji5)))) (ds:=[]) (ba 14 0) (by kernel_rfl) rfl rfl ((hcl HB hw728_0)) (fun hHeld=>?_);refine with_tabW spec_l10Row.tab5 spec_l10Row.bits5 (fun HT_ HW_=>?_);generalize wr.drew=w9 at HB hx728_0 hHeld ⊢;refine pu 0 13 (ba 14 1) ?_;refine pu 1 14 (ba 14 3) ?_;refine pu 2 15 (ba 14 7) ?_;refine pu 3 16 (ba 14 15) ?_;refine pu 4 17 (ba 14 31) ?_;refine pu 5 18 (ba 14 63) ?_;refine pu 6 19 (ba 14 127) ?_;refine pu 8 21 (ba 14 383) ?_;refine pu 9 22 (ba 14 895) ?_;refine take_ (i:=7) (N:=some 20) (v:=?_) (a':=?_) (ba 14 1023) rfl rfl (take_ofW HT_.out HW_.out (by kernel_rfl)) (fun _ _ _ h=>h) (Or.inl ⟨by rfl,?_⟩) hHeld ?_ ?_;rotate_left
   ·intro w' s0;go_simp
    with_reducible rfl
   rotate_left
   ·simp only [Act.put,List.setIfInBounds_toArray,List.set_cons_zero,List.set_cons_succ,i64_w,i32_w]
    rfl
   refine on 10 23 (ba 14 2047) (fun K hK=>?_);refine gS Tryz.func102 #[.int .i64 a2,.int .i64 x8_1] ?_
   with_reducible refine (spec_SignOf.calls k1 a2 x8_1 t729 _ A8.out).mono ?_
   rintro e w' ⟨rfl,⟨nd,rfl⟩⟩;refine ⟨_,rfl,?_⟩;refine hK.out _ _ ((hcl HB hw728_0)) (fun hHeld=>?_);clear hK K;refine nm ?_;refine pu 11 24 (ba 14 4095) ?_;refine pu 12 25 (ba 14 8191) ?_;refine pu 13 7 (ba 14 16383) ?_;refine done_ (done_of HT_.out (by kernel_rfl)) ?_;try go_wp2
   go_roundg k1;case measure=>have:=HK1.out;omega
   case rel=>exact ⟨(wrap64 (x7_1 + (wrap64 ((rd l0 (ji5)) * t729)))),(wrap64 (x8_1 + 1)),(by first | rfl|(simp;done)|(simp only [← hji5] <;> (first | rfl | simp))|(simp [*];done)),rv,H',⟨by have:=HK1.out;omega⟩,bh HB⟩
end Go.Proofs.YtdfekcelcdkjlaaGreat.QFnConfined
