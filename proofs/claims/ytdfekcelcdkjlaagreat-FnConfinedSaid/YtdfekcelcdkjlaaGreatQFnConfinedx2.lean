/- Walks of what the law reaches. -/
import Derived.Test.YtdfekcelcdkjlaaGreatQFnConfinedx0
import Derived.Test.YtdfekcelcdkjlaaGreatQFnConfinedx1
namespace Go.Proofs.YtdfekcelcdkjlaaGreat.QFnConfined
open Go.RowKit Go.Proofs.YtdfekcelcdkjlaaGreatW.PrintWords Go.Proofs.YtdfekcelcdkjlaaGreatW.PrintLast Go.Proofs.YtdfekcelcdkjlaaGreatW.PrintMore Go.Proofs.YtdfekcelcdkjlaaGreatV
attribute [local go_sem] max2_int min2_int max_two min_two max_three min_three max_four min_four
set_option linter.unusedVariables false
set_option linter.unusedSimpArgs false
set_option maxHeartbeats 8000000
set_option maxRecDepth 100000
def impl_SquareOk.f (k:Nat) (a0_0:Int) (a0_1:Int) (a0_2:Int) (a0_3:Int) (l0_4:List Int):Option (Bool):=if a0_0=0 then (if a0_1=0 then (if a0_2=0 then (if a0_3=0 then (some ((l0_4.length:Int) == 0)) else (some false)) else (some false)) else (some false)) else (if a0_0=1 then (if a0_1=0 then ((impl_within.f a0_2 (-16) 16).bind fun t366=>(if t366=true then ((impl_within.f a0_3 (-16) 16).bind fun t367=>(if t367=true then ((impl_areLevels.f k l0_4).bind fun t368=>(some t368)) else (some false))) else (some false))) else (some false)) else (if a0_0=2 then ((impl_within.f a0_1 0 3).bind fun t369=>(if t369=true then (if a0_2=0 then (if a0_3=0 then ((impl_areLevels.f k l0_4).bind fun t370=>(some t370)) else (some false)) else (some false)) else (some false))) else (some false)))
theorem impl_SquareOk.calls (k:Nat) (a0_0:Int) (a0_1:Int) (a0_2:Int) (a0_3:Int) (A0_4:Option Addr) (c0_4:Nat) (l0_4:List Int) (r:Bool) (w:World) (hr0_4:Kd.C (Kd.int .i64) w A0_4 l0_4.length l0_4) (hc0_4:l0_4.length≤c0_4) (h:impl_SquareOk.f k a0_0 a0_1 a0_2 a0_3 l0_4=some r) :
  Calls Tryz.prog 35 #[.agg #[.int .i64 a0_0,.int .i64 a0_1,.int .i64 a0_2,.int .i64 a0_3,.slice A0_4 l0_4.length c0_4]] w fun e w'=>e=.returned (.bool r)∧Below w.heap.size w w':=by
 have hu50:=Tryz.underlying50;have HR0_4:=am hr0_4;have HC0_4:=am hc0_4;clear hr0_4 hc0_4;have HB:=am (Below.refl w.heap.size w);have H:=h;clear h;unfold impl_SquareOk.f at H;replace H:=ife H;rcases H with ⟨-,c2b0,c2b1,H⟩ | ⟨c2,c2b0,c2b1,H⟩
 ·replace H:=ife H;rcases H with ⟨-,c3b0,c3b1,H⟩ | ⟨c3,c3b0,c3b1,H⟩;rotate_left
  ·obtain rfl:=sj H;go_enter Tryz.func35,Tryz.ntmps35;go_wp2_with (first|((with_reducible refine gd 1 ?_);(try (refine gate_guard (by rfl) ?_;dsimp only));refine bx 1 #[.int .i64 a0_0,.int .i64 a0_1,.int .i64 a0_2,.int .i64 a0_3,.slice A0_4 l0_4.length c0_4] 50 ?_;intro gb365 hg w12 BK365 hb;have GE365:=ge HB hg;replace HB:=bs HB hb;clear hb hg;obtain ⟨z13a,z13b,z13c,z13d,z13e,z13p,z13q,z13r,z13s,z13t⟩:=cl5 BK365));go_ret;exact ⟨re,bo HB⟩
  replace H:=ife H;rcases H with ⟨-,c4b0,c4b1,H⟩ | ⟨c4,c4b0,c4b1,H⟩
  ·replace H:=ife H;rcases H with ⟨-,c5b0,c5b1,H⟩ | ⟨c5,c5b0,c5b1,H⟩
   ·obtain rfl:=sj H;go_enter Tryz.func35,Tryz.ntmps35;go_wp2_with (first|((with_reducible refine gd 1 ?_);(try (refine gate_guard (by rfl) ?_;dsimp only));refine bx 1 #[.int .i64 a0_0,.int .i64 a0_1,.int .i64 a0_2,.int .i64 a0_3,.slice A0_4 l0_4.length c0_4] 50 ?_;intro gb365 hg w6 BK365 hb;have GE365:=ge HB hg;replace HB:=bs HB hb;clear hb hg;obtain ⟨z7a,z7b,z7c,z7d,z7e,z7p,z7q,z7r,z7s,z7t⟩:=cl5 BK365));go_ret;exact ⟨re,bo HB⟩
   ·obtain rfl:=sj H;go_enter Tryz.func35,Tryz.ntmps35;go_wp2_with (first|((with_reducible refine gd 1 ?_);(try (refine gate_guard (by rfl) ?_;dsimp only));refine bx 1 #[.int .i64 a0_0,.int .i64 a0_1,.int .i64 a0_2,.int .i64 a0_3,.slice A0_4 l0_4.length c0_4] 50 ?_;intro gb365 hg w8 BK365 hb;have GE365:=ge HB hg;replace HB:=bs HB hb;clear hb hg;obtain ⟨z9a,z9b,z9c,z9d,z9e,z9p,z9q,z9r,z9s,z9t⟩:=cl5 BK365));go_ret;exact ⟨re,bo HB⟩
  ·obtain rfl:=sj H;go_enter Tryz.func35,Tryz.ntmps35;go_wp2_with (first|((with_reducible refine gd 1 ?_);(try (refine gate_guard (by rfl) ?_;dsimp only));refine bx 1 #[.int .i64 a0_0,.int .i64 a0_1,.int .i64 a0_2,.int .i64 a0_3,.slice A0_4 l0_4.length c0_4] 50 ?_;intro gb365 hg w10 BK365 hb;have GE365:=ge HB hg;replace HB:=bs HB hb;clear hb hg;obtain ⟨z11a,z11b,z11c,z11d,z11e,z11p,z11q,z11r,z11s,z11t⟩:=cl5 BK365));go_ret;exact ⟨re,bo HB⟩
 ·replace H:=ife H;rcases H with ⟨-,c14b0,c14b1,H⟩ | ⟨c14,c14b0,c14b1,H⟩
  ·replace H:=ife H;rcases H with ⟨-,c15b0,c15b1,H⟩ | ⟨c15,c15b0,c15b1,H⟩;rotate_left
   ·obtain rfl:=sj H;go_enter Tryz.func35,Tryz.ntmps35;go_wp2_with (first|((with_reducible refine gd 1 ?_);(try (refine gate_guard (by rfl) ?_;dsimp only));refine bx 1 #[.int .i64 a0_0,.int .i64 a0_1,.int .i64 a0_2,.int .i64 a0_3,.slice A0_4 l0_4.length c0_4] 50 ?_;intro gb365 hg w27 BK365 hb;have GE365:=ge HB hg;replace HB:=bs HB hb;clear hb hg;obtain ⟨z28a,z28b,z28c,z28d,z28e,z28p,z28q,z28r,z28s,z28t⟩:=cl5 BK365));go_ret;exact ⟨re,bo HB⟩
   replace H:=bnd H;obtain ⟨t366,A16,H⟩:=H;replace H:=ifb H;rcases H with ⟨rfl,H⟩ | ⟨rfl,H⟩;rotate_left
   ·obtain rfl:=sj H;go_enter Tryz.func35,Tryz.ntmps35;go_wp2_with (first|((with_reducible refine gd 1 ?_);(try (refine gate_guard (by rfl) ?_;dsimp only));refine bx 1 #[.int .i64 a0_0,.int .i64 a0_1,.int .i64 a0_2,.int .i64 a0_3,.slice A0_4 l0_4.length c0_4] 50 ?_;intro gb365 hg w25 BK365 hb;have GE365:=ge HB hg;replace HB:=bs HB hb;clear hb hg;obtain ⟨z26a,z26b,z26c,z26d,z26e,z26p,z26q,z26r,z26s,z26t⟩:=cl5 BK365)|(go_at_call 14;(with_reducible refine (impl_within.calls a0_2 (-16) 16 false _ A16.out).mono ?_);rintro e w' ⟨rfl,⟨nd,rfl⟩⟩));go_ret;exact ⟨re,bo HB⟩
   replace H:=bnd H;obtain ⟨t367,A18,H⟩:=H;replace H:=ifb H;rcases H with ⟨rfl,H⟩ | ⟨rfl,H⟩
   ·replace H:=bnd H;obtain ⟨t368,A20,H⟩:=H;obtain rfl:=sj H;go_enter Tryz.func35,Tryz.ntmps35;go_wp2_with (first|((with_reducible refine gd 1 ?_);(try (refine gate_guard (by rfl) ?_;dsimp only));refine bx 1 #[.int .i64 a0_0,.int .i64 a0_1,.int .i64 a0_2,.int .i64 a0_3,.slice A0_4 l0_4.length c0_4] 50 ?_;intro gb365 hg w21 BK365 hb;have GE365:=ge HB hg;replace HB:=bs HB hb;clear hb hg;obtain ⟨z22a,z22b,z22c,z22d,z22e,z22p,z22q,z22r,z22s,z22t⟩:=cl5 BK365)|(go_at_call 14;(with_reducible refine (impl_within.calls a0_2 (-16) 16 true _ A16.out).mono ?_);rintro e w' ⟨rfl,⟨nd,rfl⟩⟩)|(go_at_call 14;(with_reducible refine (impl_within.calls a0_3 (-16) 16 true _ A18.out).mono ?_);rintro e w' ⟨rfl,⟨nd,rfl⟩⟩)|(go_at_call 56;(with_reducible refine (impl_areLevels.calls k _ _ l0_4 t368 _ ?side1 ?side2 A20.out).mono ?_);(case side1=>exact ca (Kd.C_below HR0_4.out (bo HB)));(case side2=>exact HC0_4.out);rintro e w' ⟨rfl,⟨nd,rfl⟩⟩));go_ret;exact ⟨re,bo HB⟩
   ·obtain rfl:=sj H;go_enter Tryz.func35,Tryz.ntmps35;go_wp2_with (first|((with_reducible refine gd 1 ?_);(try (refine gate_guard (by rfl) ?_;dsimp only));refine bx 1 #[.int .i64 a0_0,.int .i64 a0_1,.int .i64 a0_2,.int .i64 a0_3,.slice A0_4 l0_4.length c0_4] 50 ?_;intro gb365 hg w23 BK365 hb;have GE365:=ge HB hg;replace HB:=bs HB hb;clear hb hg;obtain ⟨z24a,z24b,z24c,z24d,z24e,z24p,z24q,z24r,z24s,z24t⟩:=cl5 BK365)|(go_at_call 14;(with_reducible refine (impl_within.calls a0_2 (-16) 16 true _ A16.out).mono ?_);rintro e w' ⟨rfl,⟨nd,rfl⟩⟩)|(go_at_call 14;(with_reducible refine (impl_within.calls a0_3 (-16) 16 false _ A18.out).mono ?_);rintro e w' ⟨rfl,⟨nd,rfl⟩⟩));go_ret;exact ⟨re,bo HB⟩
  ·replace H:=ife H;rcases H with ⟨-,c29b0,c29b1,H⟩ | ⟨c29,c29b0,c29b1,H⟩;rotate_left
   ·obtain rfl:=sj H;go_enter Tryz.func35,Tryz.ntmps35;go_wp2_with (first|((with_reducible refine gd 1 ?_);(try (refine gate_guard (by rfl) ?_;dsimp only));refine bx 1 #[.int .i64 a0_0,.int .i64 a0_1,.int .i64 a0_2,.int .i64 a0_3,.slice A0_4 l0_4.length c0_4] 50 ?_;intro gb365 hg w43 BK365 hb;have GE365:=ge HB hg;replace HB:=bs HB hb;clear hb hg;obtain ⟨z44a,z44b,z44c,z44d,z44e,z44p,z44q,z44r,z44s,z44t⟩:=cl5 BK365));go_ret;exact ⟨re,bo HB⟩
   replace H:=bnd H;obtain ⟨t369,A30,H⟩:=H;replace H:=ifb H;rcases H with ⟨rfl,H⟩ | ⟨rfl,H⟩;rotate_left
   ·obtain rfl:=sj H;go_enter Tryz.func35,Tryz.ntmps35;go_wp2_with (first|((with_reducible refine gd 1 ?_);(try (refine gate_guard (by rfl) ?_;dsimp only));refine bx 1 #[.int .i64 a0_0,.int .i64 a0_1,.int .i64 a0_2,.int .i64 a0_3,.slice A0_4 l0_4.length c0_4] 50 ?_;intro gb365 hg w41 BK365 hb;have GE365:=ge HB hg;replace HB:=bs HB hb;clear hb hg;obtain ⟨z42a,z42b,z42c,z42d,z42e,z42p,z42q,z42r,z42s,z42t⟩:=cl5 BK365)|((with_reducible refine gc 14 ?_);refine gD (some 50) Tryz.func14 _ (impl_within.calls _ _ _ _ _ A30.out) ?_;intro nd));go_ret;exact ⟨re,bo HB⟩
   replace H:=ife H;rcases H with ⟨-,c32b0,c32b1,H⟩ | ⟨c32,c32b0,c32b1,H⟩
   ·replace H:=ife H;rcases H with ⟨-,c33b0,c33b1,H⟩ | ⟨c33,c33b0,c33b1,H⟩
    ·replace H:=bnd H;obtain ⟨t370,A34,H⟩:=H;obtain rfl:=sj H;go_enter Tryz.func35,Tryz.ntmps35;go_wp2_with (first|((with_reducible refine gd 1 ?_);(try (refine gate_guard (by rfl) ?_;dsimp only));refine bx 1 #[.int .i64 a0_0,.int .i64 a0_1,.int .i64 a0_2,.int .i64 a0_3,.slice A0_4 l0_4.length c0_4] 50 ?_;intro gb365 hg w35 BK365 hb;have GE365:=ge HB hg;replace HB:=bs HB hb;clear hb hg;obtain ⟨z36a,z36b,z36c,z36d,z36e,z36p,z36q,z36r,z36s,z36t⟩:=cl5 BK365)|((with_reducible refine gc 14 ?_);refine gD (some 50) Tryz.func14 _ (impl_within.calls _ _ _ _ _ A30.out) ?_;intro nd)|(go_at_call 56;(with_reducible refine (impl_areLevels.calls k _ _ l0_4 t370 _ ?side1 ?side2 A34.out).mono ?_);(case side1=>exact ca (Kd.C_below HR0_4.out (bo HB)));(case side2=>exact HC0_4.out);rintro e w' ⟨rfl,⟨nd,rfl⟩⟩));go_ret;exact ⟨re,bo HB⟩
    ·obtain rfl:=sj H;go_enter Tryz.func35,Tryz.ntmps35;go_wp2_with (first|((with_reducible refine gd 1 ?_);(try (refine gate_guard (by rfl) ?_;dsimp only));refine bx 1 #[.int .i64 a0_0,.int .i64 a0_1,.int .i64 a0_2,.int .i64 a0_3,.slice A0_4 l0_4.length c0_4] 50 ?_;intro gb365 hg w37 BK365 hb;have GE365:=ge HB hg;replace HB:=bs HB hb;clear hb hg;obtain ⟨z38a,z38b,z38c,z38d,z38e,z38p,z38q,z38r,z38s,z38t⟩:=cl5 BK365)|((with_reducible refine gc 14 ?_);refine gD (some 50) Tryz.func14 _ (impl_within.calls _ _ _ _ _ A30.out) ?_;intro nd));go_ret;exact ⟨re,bo HB⟩
   ·obtain rfl:=sj H;go_enter Tryz.func35,Tryz.ntmps35;go_wp2_with (first|((with_reducible refine gd 1 ?_);(try (refine gate_guard (by rfl) ?_;dsimp only));refine bx 1 #[.int .i64 a0_0,.int .i64 a0_1,.int .i64 a0_2,.int .i64 a0_3,.slice A0_4 l0_4.length c0_4] 50 ?_;intro gb365 hg w39 BK365 hb;have GE365:=ge HB hg;replace HB:=bs HB hb;clear hb hg;obtain ⟨z40a,z40b,z40c,z40d,z40e,z40p,z40q,z40r,z40s,z40t⟩:=cl5 BK365)|((with_reducible refine gc 14 ?_);refine gD (some 50) Tryz.func14 _ (impl_within.calls _ _ _ _ _ A30.out) ?_;intro nd));go_ret;exact ⟨re,bo HB⟩
def impl_Square_let.f (a0_0:Int) (a0_1:Int) (a0_2:Int) (a0_3:Int) (l0_4:List Int) (a1_0:Bool) (a1_1:Int) (a1_2:Bool) (a1_3:Bool):Option (Bool):=if a1_0=true then (some (a0_0 == 2)) else (some true)
theorem impl_Square_let.calls (a0_0:Int) (a0_1:Int) (a0_2:Int) (a0_3:Int) (A0_4:Option Addr) (c0_4:Nat) (l0_4:List Int) (a1_0:Bool) (a1_1:Int) (a1_2:Bool) (a1_3:Bool) (r:Bool) (w:World) (hr0_4:Kd.C (Kd.int .i64) w A0_4 l0_4.length l0_4) (hc0_4:l0_4.length≤c0_4) (h:impl_Square_let.f a0_0 a0_1 a0_2 a0_3 l0_4 a1_0 a1_1 a1_2 a1_3=some r) :
  Calls Tryz.prog 36 #[.agg #[.int .i64 a0_0,.int .i64 a0_1,.int .i64 a0_2,.int .i64 a0_3,.slice A0_4 l0_4.length c0_4],.agg #[.bool a1_0,.int .i64 a1_1,.bool a1_2,.bool a1_3]] w fun e w'=>e=.returned (.bool r)∧Below w.heap.size w w':=by
 have hu50:=Tryz.underlying50;have hu29:=Tryz.underlying29;have HR0_4:=am hr0_4;have HC0_4:=am hc0_4;clear hr0_4 hc0_4;have HB:=am (Below.refl w.heap.size w);have H:=h;clear h;unfold impl_Square_let.f at H;replace H:=ifb H;rcases H with ⟨rfl,H⟩ | ⟨rfl,H⟩
 ·obtain rfl:=sj H;go_enter Tryz.func36,Tryz.ntmps36;go_wp2_with (first|((with_reducible refine gd 2 ?_);refine bx 2 #[.int .i64 a0_0,.int .i64 a0_1,.int .i64 a0_2,.int .i64 a0_3,.slice A0_4 l0_4.length c0_4] 50 ?_;intro gb371 hg w4 BK371 hb;have GE371:=ge HB hg;replace HB:=bs HB hb;clear hb hg)|((with_reducible refine gd 3 ?_);refine bx 3 #[.bool true,.int .i64 a1_1,.bool a1_2,.bool a1_3] 29 ?_;intro gb372 hg w5 BK372 hb;have GE372:=ge HB hg;have NB371_372:=n1 BK371 hg;have NB372_371:=n2 BK371 hg;replace BK371:=bb BK371 hb;replace HB:=bs HB hb;clear hb hg;have ⟨hnb6,hnc6⟩:=nn NB372_371;obtain ⟨z7a,z7b,z7c,z7d,z7p,z7q,z7r,z7s⟩:=cl4 BK372;obtain ⟨z8a,z8b,z8c,z8d,z8e,z8p,z8q,z8r,z8s,z8t⟩:=cl5 BK371));go_ret;exact ⟨re,bo HB⟩
 ·obtain rfl:=sj H;go_enter Tryz.func36,Tryz.ntmps36;go_wp2_with (first|((with_reducible refine gd 2 ?_);refine bx 2 #[.int .i64 a0_0,.int .i64 a0_1,.int .i64 a0_2,.int .i64 a0_3,.slice A0_4 l0_4.length c0_4] 50 ?_;intro gb371 hg w9 BK371 hb;have GE371:=ge HB hg;replace HB:=bs HB hb;clear hb hg)|((with_reducible refine gd 3 ?_);refine bx 3 #[.bool false,.int .i64 a1_1,.bool a1_2,.bool a1_3] 29 ?_;intro gb372 hg w10 BK372 hb;have GE372:=ge HB hg;have NB371_372:=n1 BK371 hg;have NB372_371:=n2 BK371 hg;replace BK371:=bb BK371 hb;replace HB:=bs HB hb;clear hb hg;have ⟨hnb11,hnc11⟩:=nn NB372_371;obtain ⟨z12a,z12b,z12c,z12d,z12p,z12q,z12r,z12s⟩:=cl4 BK372));go_ret;exact ⟨re,bo HB⟩
def impl_Brought.f (a0:Int) (a1:Int) (a2:Int):Option (Int):=some (mx a1 (mn a0 a2))
theorem impl_Brought.calls (a0:Int) (a1:Int) (a2:Int) (r:Int) (w:World) (h:impl_Brought.f a0 a1 a2=some r) :
  Calls Tryz.prog 65 #[.int .i64 a0,.int .i64 a1,.int .i64 a2] w fun e w'=>e=.returned (.int .i64 r)∧Below w.heap.size w w':=by
 have HB:=am (Below.refl w.heap.size w);have H:=h;clear h;unfold impl_Brought.f at H;obtain ⟨ji4,hji4⟩:∃ j_:Int,(mn a0 a2)=j_:=⟨_,rfl⟩
 replace H:(some (mx a1 (ji4)))=some r:=by first|(rw [hji4] at H;exact H)|(simp only [hji4] at H ⊢;exact H)
 have hji4_:(if a2 < a0 then a2 else a0)=ji4:=hji4;obtain ⟨ji5,hji5⟩:∃ j_:Int,(mx a1 (ji4))=j_:=⟨_,rfl⟩
 replace H:(some ji5)=some r:=by first|(rw [hji5] at H;exact H)|(simp only [hji5] at H ⊢;exact H)
 have hji5_:(if a1 < (ji4) then (ji4) else a1)=ji5:=hji5;obtain rfl:=sj H;go_enter Tryz.func65,Tryz.ntmps65;go_wp2;go_ret;exact ⟨by first | rfl|(simp [errW_none,errW_some] <;> rfl)|(simp only [← hji4,← hji5];first | rfl|(simp [errW_none,errW_some] <;> rfl))|(simp [*,errW_none,errW_some] <;> rfl),bo HB⟩
def impl_Pic_dot.f (a0_0:Int) (a0_1:Int) (a0_2:ByteArray) (a1:Int) (a2:Int):Option (Int):=(impl_Brought.f a2 0 (wrap64 (a0_1 - 1))).bind fun t374=>((impl_Brought.f a1 0 (wrap64 (a0_0 - 1))).bind fun t375=>(if 0≤(wrap64 ((wrap64 (t374 * a0_0)) + t375)) then (if (wrap64 ((wrap64 (t374 * a0_0)) + t375)) < (a0_2.size:Int) then (some (wrap64 (bt a0_2 (wrap64 ((wrap64 (t374 * a0_0)) + t375))))) else (none)) else (none)))
def impl_Pic_dot.T1:Bool × List (List Nat × List Nat):=(true,[([],[]),([0],[0]),([],[]),([],[]),([3],[3]),([4],[4]),([2,5],[2,5]),([],[]),([7],[7]),([6,8],[6,8]),([],[]),([],[]),([11],[11]),([12],[12]),([10,13,6],[10,13]),([9,14],[9,14]),([1,15],[1,15]),([16],[16]),([17,14,0,1,2,3,4,5,6,7,8,9,10,11,12,13,14,15,16,17],[17])])
def impl_Pic_dot.B1:List Nat:=[0,1,0,0,8,24,60,0,128,508,0,0,2048,6144,15484,32764,65535,131071,262143]
theorem impl_Pic_dot.tab1:rtab .any (opsOf Tryz.f57 1)=impl_Pic_dot.T1:=by kernel_rfl
theorem impl_Pic_dot.bits1:waitsOk impl_Pic_dot.T1.2 impl_Pic_dot.B1=true:=by kernel_rfl
theorem impl_Pic_dot.calls (a0_0:Int) (a0_1:Int) (a0_2:ByteArray) (a1:Int) (a2:Int) (r:Int) (w:World) (h:impl_Pic_dot.f a0_0 a0_1 a0_2 a1 a2=some r) :
  Calls Tryz.prog 57 #[.agg #[.int .i64 a0_0,.int .i64 a0_1,.string a0_2],.int .i64 a1,.int .i64 a2] w fun e w'=>e=.returned (.int .i64 r)∧Below w.heap.size w w':=by
 have hu25:=Tryz.underlying25;have HB:=am (Below.refl w.heap.size w);have H:=h;clear h;unfold impl_Pic_dot.f at H;replace H:=bnd H;obtain ⟨t374,A4,H⟩:=H;replace H:=bnd H;obtain ⟨t375,A5,H⟩:=H;obtain ⟨ji6,hji6⟩:∃ j_:Int,(wrap64 ((wrap64 (t374 * a0_0)) + t375))=j_:=⟨_,rfl⟩
 replace H:(if 0≤(ji6) then (if (ji6) < (a0_2.size:Int) then (some (wrap64 (bt a0_2 (ji6)))) else (none)) else (none))=some r:=by first|(rw [hji6] at H;exact H)|(simp only [hji6] at H ⊢;exact H)
 (try rw [hji6] at A4)
 (try rw [hji6] at A5)
 have hji6w:(IntKind.i64.wrap ((wrap64 (t374 * a0_0)) + t375))=ji6:=(i64_w _).trans hji6;by_cases c7:0≤(ji6);rotate_left
 ·rw [if_neg c7] at H;cases H
 rw [if_pos c7] at H;have c7b0:=decide_eq_true c7;clear c7;replace H:=ifN H;obtain ⟨c8b0,H⟩:=H;obtain rfl:=sj H;go_enter Tryz.func57,Tryz.ntmps57;try go_wp2_with (first|((with_reducible refine gd 3 ?_);refine bx 3 #[.int .i64 a0_0,.int .i64 a0_1,.string a0_2] 25 ?_;intro gb373 hg w10 BK373 hb;have GE373:=ge HB hg;replace HB:=bs HB hb;clear hb hg))
 replace BK373:=am (blk_drew BK373.out);replace HB:=am (below_drew1 HB.out);refine start_ (n:=19) (S:=fun w'=>w'.cell? ⟨gb373,0,none⟩=some (.int .i64 a0_0)∧w'.cell? ⟨gb373,1,none⟩=some (.int .i64 a0_1)∧w'.cell? ⟨gb373,2,none⟩=some (.string a0_2)) (ds:=[]) (ba 19 0) (by kernel_rfl) rfl rfl ⟨bc BK373 0,bc BK373 1,bc BK373 2⟩ (fun hHeld=>?_);refine with_tabW impl_Pic_dot.tab1 impl_Pic_dot.bits1 (fun HT_ HW_=>?_);generalize w10.drew=w11 at BK373 HB hHeld ⊢;refine pu 0 7 (ba 19 1) ?_;refine pu 2 9 (ba 19 5) ?_;refine pu 3 10 (ba 19 13) ?_;refine pu 7 14 (ba 19 141) ?_;refine pu 10 17 (ba 19 1165) ?_;refine pu 11 18 (ba 19 3213) ?_;refine tk 1 8 (ba 19 3215) hHeld ?_;refine tk 4 11 (ba 19 3231) hHeld ?_;refine pu 5 12 (ba 19 3263) ?_;refine tk 8 15 (ba 19 3519) hHeld ?_;refine tk 12 19 (ba 19 7615) hHeld ?_;refine pu 13 20 (ba 19 15807) ?_;refine on 6 13 (ba 19 15871) (fun K hK=>?_);refine gS Tryz.func65 #[.int .i64 a2,.int .i64 0,.int .i64 (wrap64 (a0_1 - 1))] ?_
 with_reducible refine (impl_Brought.calls a2 0 (wrap64 (a0_1 - 1)) t374 _ A4.out).mono ?_
 rintro e w12 ⟨rfl,hb⟩;refine ⟨_,rfl,?_⟩;replace BK373:=bb BK373 hb;replace HB:=bs HB hb;(try clear hb)
 (try clear hb2)
 (try clear hk)
 (try clear hi)
 refine hK.out _ _ ⟨bc BK373 0,bc BK373 1,bc BK373 2⟩ (fun hHeld=>?_);clear hK K;refine nm ?_;refine pu 9 16 (ba 19 16383) ?_;refine on 14 21 (ba 19 32767) (fun K hK=>?_);refine gS Tryz.func65 #[.int .i64 a1,.int .i64 0,.int .i64 (wrap64 (a0_0 - 1))] ?_
 with_reducible refine (impl_Brought.calls a1 0 (wrap64 (a0_0 - 1)) t375 _ A5.out).mono ?_
 rintro e w13 ⟨rfl,hb⟩;refine ⟨_,rfl,?_⟩;replace BK373:=bb BK373 hb;replace HB:=bs HB hb;(try clear hb)
 (try clear hb2)
 (try clear hk)
 (try clear hi)
 have p9:0≤((ji6):Int):=od;have q9:(ji6) < (a0_2.size:Int):=od;have hx9:=bt_at a0_2 (ji6);replace p9:=eq_true p9;replace q9:=eq_true q9;refine hK.out _ _ ⟨bc BK373 0,bc BK373 1,bc BK373 2⟩ (fun hHeld=>?_);clear hK K;refine nm ?_;refine pu 15 22 (ba 19 65535) ?_;refine tk 16 23 (ba 19 131071) hHeld ?_;refine pu 17 24 (ba 19 262143) ?_;refine pu 18 6 (ba 19 524287) ?_;refine done_ (done_of HT_.out (by kernel_rfl)) ?_;try go_wp2
 go_ret;exact ⟨by first | rfl|(simp [errW_none,errW_some] <;> rfl)|(simp only [← hji6];first | rfl|(simp [errW_none,errW_some] <;> rfl))|(simp [*,errW_none,errW_some] <;> rfl),bo HB⟩
mutual
def impl_Pic_block.l0:Nat→Int→Int→List Int→Int→Int→Int→ByteArray→Option (List Int)
 | 0,_,_,_,_,_,_,_=>none
 | k + 1,x1,x2,x7,x11,x377a,x377b,x377c=>if x11 < 8 then (impl_Pic_block.l1 k x1 x2 x7 x11 x11 0 x377a x377b x377c) else (some x7)
def impl_Pic_block.l1:Nat→Int→Int→List Int→Int→Int→Int→Int→Int→ByteArray→Option (List Int)
 | 0,_,_,_,_,_,_,_,_,_=>none
 | k + 1,x1,x2,x7,x8,x11,x14,x377a,x377b,x377c=>if x14 < 8 then ((impl_Pic_dot.f x377a x377b x377c (wrap64 (x1 + x14)) (wrap64 (x2 + x8))).bind fun t380=>(if x7.length < 17592186044416 then (impl_Pic_block.l1 k x1 x2 (x7 ++ [t380]) x8 x11 (wrap64 (x14 + 1)) x377a x377b x377c) else (none))) else (impl_Pic_block.l0 k x1 x2 x7 (wrap64 (x11 + 1)) x377a x377b x377c)
end
def impl_Pic_block.f (k:Nat) (a0_0:Int) (a0_1:Int) (a0_2:ByteArray) (a1:Int) (a2:Int):Option (List Int):=if 64≤35184372088832 then (impl_Pic_block.l0 k a1 a2 (([]:List Int)) 0 a0_0 a0_1 a0_2) else (none)
theorem impl_Pic_block.calls (k:Nat) (a0_0:Int) (a0_1:Int) (a0_2:ByteArray) (a1:Int) (a2:Int) (r:List Int) (w:World) (h:impl_Pic_block.f k a0_0 a0_1 a0_2 a1 a2=some r) :
  Calls Tryz.prog 37 #[.agg #[.int .i64 a0_0,.int .i64 a0_1,.string a0_2],.int .i64 a1,.int .i64 a2] w fun e w'=>∃ v0_:Value,e=.returned (v0_)∧Kd.R (Kd.int .i64) 3 w' w.heap.size (fun _=>True) v0_ r∧Below w.heap.size w w':=by
 have hu25:=Tryz.underlying25;have HB:=am (Below.refl w.heap.size w);have H:=h;clear h;unfold impl_Pic_block.f at H;by_cases c4:64≤35184372088832;rotate_left
 ·rw [if_neg c4] at H;cases H
 rw [if_pos c4] at H;have c4b0:=eq_true c4;have c4b1:=decide_eq_true c4;clear c4;obtain ⟨y377,hy377⟩:∃ y_:List Int,y_=(([]:List Int)):=⟨_,rfl⟩
 replace H:(impl_Pic_block.l0 k a1 a2 y377 0 a0_0 a0_1 a0_2)=some r:=by subst hy377;exact H
 have Ny377:=am hy377;clear hy377;have H':=am H;clear H;go_enter Tryz.func37,Tryz.ntmps37;go_wp2_with (first|((with_reducible refine gd 3 ?_);refine bx 3 #[.int .i64 a0_0,.int .i64 a0_1,.string a0_2] 25 ?_;intro gb376 hg w5 BK376 hb;have GE376:=ge HB hg;replace HB:=bs HB hb;clear hb hg)|((with_reducible refine gd 10 ?_);refine R_makecap .i64 _ 3 rfl (N:=10) rfl 33 _ _ rfl 64 rfl rfl Tryz.underlying33 8 info3 (by decide) (ok:=fun _=>True) trivial (by omega) (by omega) (Below.refl _ _) (Nat.le_refl _) ?_;intro v378 w6 ho7 hb hg_ hnew_;clear hg_ hnew_;(first | rw [← Ny377.out] at ho7|(simp only [Int.reduceToNat] at ho7;rw [← Ny377.out] at ho7));have HO379:=am (Kd.R_lower ho7 (below_size (bo HB)));replace BK376:=bb BK376 hb;replace HB:=bs HB hb;clear hb ho7));go_loopg [7,11] k (fun kq v7 v11 w'=>∃ (x7_1:List Int) (x11_1:Int),v11=.int .i64 x11_1∧Aside0 (impl_Pic_block.l0 kq a1 a2 x7_1 x11_1 a0_0 a0_1 a0_2=some r)∧Aside0 (kq≤k)∧Aside0 (Kd.R (Kd.int .i64) 3 w' w.heap.size (fun _=>True) v7 x7_1)∧Aside0 (w'.heap[gb376]?=some (.cells #[.int .i64 a0_0,.int .i64 a0_1,.string a0_2] 25 (0,0)))∧Aside0 (Below w.heap.size w w'))
 case atStart=>exact ⟨(y377),(0),rv,H',⟨Nat.le_refl _⟩,(ra HO379.out),bk BK376,bh HB⟩
 case round =>
  clear H';obtain ⟨x7_1,x11_1,rfl,HA,HK1,HO_7,BK376,HB⟩:=hrel;cases gk with
  | zero=>exact absurd HA.out (by simp [impl_Pic_block.l0])
  | succ k1 =>
   have H:=HA.out;clear HA;simp only [impl_Pic_block.l0] at H;replace H:=ifd H;rcases H with ⟨c8b0,H⟩ | ⟨c8b0,H⟩;rotate_left
   ·obtain rfl:=sj H;go_wp2;go_ret;exact ⟨_,re,ro HO_7.out,bo HB⟩
   have H':=am H;clear H;go_wp2;go_loopg [7,14] k1 (fun kq v7 v14 w'=>∃ (x7_2:List Int) (x14_2:Int),v14=.int .i64 x14_2∧Aside0 (impl_Pic_block.l1 kq a1 a2 x7_2 x11_1 x11_1 x14_2 a0_0 a0_1 a0_2=some r)∧Aside0 (kq≤k1)∧Aside0 (Kd.R (Kd.int .i64) 3 w' w.heap.size (fun _=>True) v7 x7_2)∧Aside0 (w'.heap[gb376]?=some (.cells #[.int .i64 a0_0,.int .i64 a0_1,.string a0_2] 25 (0,0)))∧Aside0 (Below w.heap.size w w'))
   case atStart=>exact ⟨(x7_1),(0),rv,H',⟨Nat.le_refl _⟩,(ra HO_7.out),bk BK376,bh HB⟩
   case round =>
    clear H';obtain ⟨x7_2,x14_2,rfl,HA,HK2,HO_7,BK376,HB⟩:=hrel;cases gk with
    | zero=>exact absurd HA.out (by simp [impl_Pic_block.l1])
    | succ k2 =>
     have H:=HA.out;clear HA;simp only [impl_Pic_block.l1] at H;replace H:=ifd H;rcases H with ⟨c9b0,H⟩ | ⟨c9b0,H⟩;rotate_left
     ·have H':=am H;clear H;go_wp2;go_roundg k2;case measure=>have:=HK1.out;have:=HK2.out;omega
      case rel=>exact ⟨(x7_2),(wrap64 (x11_1 + 1)),rv,H',⟨by have:=HK1.out;have:=HK2.out;omega⟩,(ra HO_7.out),bk BK376,bh HB⟩
     replace H:=bnd H;obtain ⟨t380,A10,H⟩:=H;by_cases c11:x7_2.length < 17592186044416
     ·rw [if_pos c11] at H;have LMc11:=am c11;clear c11;obtain ⟨y381,hy381⟩:∃ y_:List Int,y_=(x7_2 ++ [t380]):=⟨_,rfl⟩
      replace H:(impl_Pic_block.l1 k2 a1 a2 y381 x11_1 x11_1 (wrap64 (x14_2 + 1)) a0_0 a0_1 a0_2)=some r:=by subst hy381;exact H
      have Ny381:=am hy381;clear hy381;have H':=am H;clear H;obtain ⟨z12a,z12b,z12c,z12p,z12q,z12r⟩:=cl3 BK376;go_wp2_with (first|((with_reducible refine gc 57 ?_);refine gB (some 25) Tryz.func57 _ (impl_Pic_dot.calls _ _ _ _ _ _ _ A10.out) ?_ (hargs:=(by (try simp only [List.map_toArray,List.map_cons,List.map_nil]);first | done | rfl|(rw [show (wrap64 (a1 + x14_2))=(a1 + x14_2) from by unfold wrap64;omega,show (wrap64 (a2 + x11_1))=(a2 + x11_1) from by unfold wrap64;omega];rfl)|(simp only [List.length_drop,List.length_take];rfl)));intro w13 hb;replace HO_7:=am (Kd.R_below (ro HO_7.out) hb);replace BK376:=bb BK376 hb;replace HB:=bs HB hb)|((with_reducible refine gate_builtin (b:=.append) (xs:=#[.tmp 17,.tmp 26]) rfl ?_);at_builtin;refine Kd.R_append (Kd.int .i64) (w0:=w) w.heap.size rfl (.tmp 17) (.tmp 26) 33 3 (.int .i64 0) 8 rfl Tryz.underlying33 info3 rfl (by decide) (by omega) u7 x7_2 t380 [.int .i64 t380] (fun _=>True) (fun _=>False) rfl rfl ?aP (fun _ hk=>hk.elim) ?aF ?aO ?aB ?aS ?aL ?_;(case aP=>exact rfl);(case aB=>exact (bo HB));(case aF=>exact (fun _ _=>trivial));(case aO=>exact (ro HO_7.out));(case aS=>exact (below_size (bo HB)));(case aL=>have:=LMc11.out;omega);intro v382 w14 ho hb hg hat;rw [← Ny381.out] at ho;have HO383:=am (ho);replace BK376:=am (blk_grown (bt BK376) hg (Kd.R_ne HO_7.out BK376.out (by decide)));replace HB:=am (hb);clear HO_7;clear ho hb hg hat));go_roundg k2;case measure=>have:=HK1.out;have:=HK2.out;omega
      case rel=>exact ⟨(y381),(wrap64 (x14_2 + 1)),rv,H',⟨by have:=HK1.out;have:=HK2.out;omega⟩,(ra HO383.out),bk BK376,bh HB⟩
     ·rw [if_neg c11] at H;cases H
mutual
def impl_scanOrder.l0:Nat→Int→List Int→Int→Option (List Int)
 | 0,_,_,_=>none
 | k + 1,x0,x3,x4=>if x4≤(wrap64 ((wrap64 (2 * x0)) - 2)) then (impl_scanOrder.l1 k x0 x3 x4 0) else (some x3)
def impl_scanOrder.l1:Nat→Int→List Int→Int→Int→Option (List Int)
 | 0,_,_,_,_=>none
 | k + 1,x0,x3,x4,x5=>if x5≤x4 then (if (Int.tmod x4 2)=0 then (if (wrap64 (x4 - x5)) < x0 then (if (wrap64 (x4 - (wrap64 (x4 - x5)))) < x0 then (if x3.length < 17592186044416 then (impl_scanOrder.l1 k x0 (x3 ++ [wrap64 ((wrap64 ((wrap64 (x4 - x5)) * x0)) + (wrap64 (x4 - (wrap64 (x4 - x5)))))]) x4 (wrap64 (x5 + 1))) else (none)) else (impl_scanOrder.l1 k x0 x3 x4 (wrap64 (x5 + 1)))) else (impl_scanOrder.l1 k x0 x3 x4 (wrap64 (x5 + 1)))) else (if x5 < x0 then (if (wrap64 (x4 - x5)) < x0 then (if x3.length < 17592186044416 then (impl_scanOrder.l1 k x0 (x3 ++ [wrap64 ((wrap64 (x5 * x0)) + (wrap64 (x4 - x5)))]) x4 (wrap64 (x5 + 1))) else (none)) else (impl_scanOrder.l1 k x0 x3 x4 (wrap64 (x5 + 1)))) else (impl_scanOrder.l1 k x0 x3 x4 (wrap64 (x5 + 1))))) else (impl_scanOrder.l0 k x0 x3 (wrap64 (x4 + 1)))
end
def impl_scanOrder.f (k:Nat) (a0:Int):Option (List Int):=impl_scanOrder.l0 k a0 (([]:List Int)) 0
theorem impl_scanOrder.mono_l:∀ k,(∀ y0 y1 y2,LeO (impl_scanOrder.l0 k y0 y1 y2) (impl_scanOrder.l0 (k + 1) y0 y1 y2))∧(∀ y0 y1 y2 y3,LeO (impl_scanOrder.l1 k y0 y1 y2 y3) (impl_scanOrder.l1 (k + 1) y0 y1 y2 y3))
 | 0=>⟨fun _ _ _ r h=>by simp [impl_scanOrder.l0] at h,fun _ _ _ _ r h=>by simp [impl_scanOrder.l1] at h⟩
 | k + 1=>by
  obtain ⟨ih0,ih1⟩:=impl_scanOrder.mono_l k;refine ⟨?_,?_⟩
  ·intro y0 y1 y2;unfold impl_scanOrder.l0
   repeat' first
   | (with_reducible exact ih0 _ _ _)
   | (with_reducible exact ih1 _ _ _ _)
   | (with_reducible exact LeO.refl _)
   | (with_reducible exact LeO.none _)
   | (with_reducible refine LeO.ite ?_ ?_)
   | (with_reducible refine LeO.bind ?_ (fun _=>?_))
   | exact ih0 _ _ _
   | exact ih1 _ _ _ _
   | exact LeO.none _
   | refine LeO.ite ?_ ?_
   | refine LeO.bind ?_ (fun _=>?_)
  ·intro y0 y1 y2 y3;unfold impl_scanOrder.l1
   repeat' first
   | (with_reducible exact ih0 _ _ _)
   | (with_reducible exact ih1 _ _ _ _)
   | (with_reducible exact LeO.refl _)
   | (with_reducible exact LeO.none _)
   | (with_reducible refine LeO.ite ?_ ?_)
   | (with_reducible refine LeO.bind ?_ (fun _=>?_))
   | exact ih0 _ _ _
   | exact ih1 _ _ _ _
   | exact LeO.none _
   | refine LeO.ite ?_ ?_
   | refine LeO.bind ?_ (fun _=>?_)
theorem impl_scanOrder.mono:∀ a0 k,LeO (impl_scanOrder.f k a0) (impl_scanOrder.f (k + 1) a0):=by
 intro a0 k;obtain ⟨ih0,ih1⟩:=impl_scanOrder.mono_l k;unfold impl_scanOrder.f
 repeat' first
   | (with_reducible exact ih0 _ _ _)
   | (with_reducible exact ih1 _ _ _ _)
   | (with_reducible exact LeO.refl _)
   | (with_reducible exact LeO.none _)
   | (with_reducible refine LeO.ite ?_ ?_)
   | (with_reducible refine LeO.bind ?_ (fun _=>?_))
   | exact ih0 _ _ _
   | exact ih1 _ _ _ _
   | exact LeO.none _
   | refine LeO.ite ?_ ?_
   | refine LeO.bind ?_ (fun _=>?_)
theorem impl_scanOrder.calls (k:Nat) (a0:Int) (r:List Int) (w:World) (h:impl_scanOrder.f k a0=some r) :
  Calls Tryz.prog 82 #[.int .i64 a0] w fun e w'=>∃ v0_:Value,e=.returned (v0_)∧Kd.R (Kd.int .i64) 3 w' w.heap.size (fun _=>True) v0_ r∧Below w.heap.size w w':=by
 have HB:=am (Below.refl w.heap.size w);have H:=h;clear h;unfold impl_scanOrder.f at H;obtain ⟨y384,hy384⟩:∃ y_:List Int,y_=(([]:List Int)):=⟨_,rfl⟩
 replace H:(impl_scanOrder.l0 k a0 y384 0)=some r:=by subst hy384;exact H
 have Ny384:=am hy384;clear hy384;have H':=am H;clear H;go_enter Tryz.func82,Tryz.ntmps82;go_wp2_with (first|((with_reducible refine gd 8 ?_);refine Kd.R_lit (Kd.int .i64) _ 3 ?hg (N:=8) ?hd (xs:=([]:List Int)) (inner:=[]) (ok:=fun _=>True) (okp:=fun _=>True) ?hr ?hp (fun _ hk=>hk) trivial (Below.refl _ _) (Nat.le_refl _) (by simp) ?_;(case hd=>rfl);(case hg=>rfl);(case hr=>first|(go_simp;done)|(go_simp;rfl));(case hp=>exact (Reps.none _ _));intro v385 w2 ho3 hb hg_ hnew_;clear hg_ hnew_;(first | rw [← Ny384.out] at ho3|(simp only [Int.reduceToNat] at ho3;rw [← Ny384.out] at ho3));have HO386:=am (Kd.R_lower ho3 (below_size (bo HB)));replace HB:=bs HB hb;clear hb ho3));go_loopg [3,4] k (fun kq v3 v4 w'=>∃ (x3_1:List Int) (x4_1:Int),v4=.int .i64 x4_1∧Aside0 (impl_scanOrder.l0 kq a0 x3_1 x4_1=some r)∧Aside0 (kq≤k)∧Aside0 (Kd.R (Kd.int .i64) 3 w' w.heap.size (fun _=>True) v3 x3_1)∧Aside0 (Below w.heap.size w w'))
 case atStart=>exact ⟨(y384),(0),rv,H',⟨Nat.le_refl _⟩,(ra HO386.out),bh HB⟩
 case round =>
  clear H';obtain ⟨x3_1,x4_1,rfl,HA,HK1,HO_3,HB⟩:=hrel;cases gk with
  | zero=>exact absurd HA.out (by simp [impl_scanOrder.l0])
  | succ k1 =>
   have H:=HA.out;clear HA;simp only [impl_scanOrder.l0] at H;replace H:=ifd H;rcases H with ⟨c4b0,H⟩ | ⟨c4b0,H⟩;rotate_left
   ·obtain rfl:=sj H;go_wp2;go_ret;exact ⟨_,re,ro HO_3.out,bo HB⟩
   have H':=am H;clear H;go_wp2;go_loopg [3,5] k1 (fun kq v3 v5 w'=>∃ (x3_2:List Int) (x5_2:Int),v5=.int .i64 x5_2∧Aside0 (impl_scanOrder.l1 kq a0 x3_2 x4_1 x5_2=some r)∧Aside0 (kq≤k1)∧Aside0 (Kd.R (Kd.int .i64) 3 w' w.heap.size (fun _=>True) v3 x3_2)∧Aside0 (Below w.heap.size w w'))
   case atStart=>exact ⟨(x3_1),(0),rv,H',⟨Nat.le_refl _⟩,(ra HO_3.out),bh HB⟩
   case round =>
    clear H';obtain ⟨x3_2,x5_2,rfl,HA,HK2,HO_3,HB⟩:=hrel;cases gk with
    | zero=>exact absurd HA.out (by simp [impl_scanOrder.l1])
    | succ k2 =>
     have H:=HA.out;clear HA;simp only [impl_scanOrder.l1] at H;replace H:=ifd H;rcases H with ⟨c5b0,H⟩ | ⟨c5b0,H⟩;rotate_left
     ·have H':=am H;clear H;go_wp2;go_roundg k2;case measure=>have:=HK1.out;have:=HK2.out;omega
      case rel=>exact ⟨(x3_2),(wrap64 (x4_1 + 1)),rv,H',⟨by have:=HK1.out;have:=HK2.out;omega⟩,(ra HO_3.out),bh HB⟩
     replace H:=ife H;rcases H with ⟨-,c6b0,c6b1,H⟩ | ⟨c6,c6b0,c6b1,H⟩
     ·replace H:=ifd H;rcases H with ⟨c7b0,H⟩ | ⟨c7b0,H⟩;rotate_left
      ·have H':=am H;clear H;go_wp2;go_roundg k2;case measure=>have:=HK1.out;have:=HK2.out;omega
       case rel=>exact ⟨(x3_2),(wrap64 (x5_2 + 1)),rv,H',⟨by have:=HK1.out;have:=HK2.out;omega⟩,(ra HO_3.out),bh HB⟩
      replace H:=ifd H;rcases H with ⟨c8b0,H⟩ | ⟨c8b0,H⟩;rotate_left
      ·have H':=am H;clear H;go_wp2;go_roundg k2;case measure=>have:=HK1.out;have:=HK2.out;omega
       case rel=>exact ⟨(x3_2),(wrap64 (x5_2 + 1)),rv,H',⟨by have:=HK1.out;have:=HK2.out;omega⟩,(ra HO_3.out),bh HB⟩
      by_cases c9:x3_2.length < 17592186044416
      ·rw [if_pos c9] at H;have LMc9:=am c9;clear c9;obtain ⟨y387,hy387⟩:∃ y_:List Int,y_=(x3_2 ++ [wrap64 ((wrap64 ((wrap64 (x4_1 - x5_2)) * a0)) + (wrap64 (x4_1 - (wrap64 (x4_1 - x5_2)))))]):=⟨_,rfl⟩
       replace H:(impl_scanOrder.l1 k2 a0 y387 x4_1 (wrap64 (x5_2 + 1)))=some r:=by subst hy387;exact H
       have Ny387:=am hy387;clear hy387;have H':=am H;clear H;go_wp2_with (first|((with_reducible refine gate_builtin (b:=.append) (xs:=#[.tmp 39,.tmp 45]) rfl ?_);at_builtin;refine Kd.R_append (Kd.int .i64) (w0:=w) w.heap.size rfl (.tmp 39) (.tmp 45) 33 3 (.int .i64 0) 8 rfl Tryz.underlying33 info3 rfl (by decide) (by omega) u3 x3_2 (wrap64 ((wrap64 ((wrap64 (x4_1 - x5_2)) * a0)) + (wrap64 (x4_1 - (wrap64 (x4_1 - x5_2)))))) [.int .i64 (wrap64 ((wrap64 ((wrap64 (x4_1 - x5_2)) * a0)) + (wrap64 (x4_1 - (wrap64 (x4_1 - x5_2))))))] (fun _=>True) (fun _=>False) rfl rfl ?aP (fun _ hk=>hk.elim) ?aF ?aO ?aB ?aS ?aL ?_;(case aP=>exact rfl);(case aB=>exact (bo HB));(case aF=>exact (fun _ _=>trivial));(case aO=>exact (ro HO_3.out));(case aS=>exact (below_size (bo HB)));(case aL=>have:=LMc9.out;omega);intro v388 w10 ho hb hg hat;rw [← Ny387.out] at ho;have HO389:=am (ho);replace HB:=am (hb);clear HO_3;clear ho hb hg hat));go_roundg k2;case measure=>have:=HK1.out;have:=HK2.out;omega
       case rel=>exact ⟨(y387),(wrap64 (x5_2 + 1)),rv,H',⟨by have:=HK1.out;have:=HK2.out;omega⟩,(ra HO389.out),bh HB⟩
      ·rw [if_neg c9] at H;cases H
     ·replace H:=ifd H;rcases H with ⟨c11b0,H⟩ | ⟨c11b0,H⟩;rotate_left
      ·have H':=am H;clear H;go_wp2;go_roundg k2;case measure=>have:=HK1.out;have:=HK2.out;omega
       case rel=>exact ⟨(x3_2),(wrap64 (x5_2 + 1)),rv,H',⟨by have:=HK1.out;have:=HK2.out;omega⟩,(ra HO_3.out),bh HB⟩
      replace H:=ifd H;rcases H with ⟨c12b0,H⟩ | ⟨c12b0,H⟩;rotate_left
      ·have H':=am H;clear H;go_wp2;go_roundg k2;case measure=>have:=HK1.out;have:=HK2.out;omega
       case rel=>exact ⟨(x3_2),(wrap64 (x5_2 + 1)),rv,H',⟨by have:=HK1.out;have:=HK2.out;omega⟩,(ra HO_3.out),bh HB⟩
      by_cases c13:x3_2.length < 17592186044416
      ·rw [if_pos c13] at H;have LMc13:=am c13;clear c13;obtain ⟨y390,hy390⟩:∃ y_:List Int,y_=(x3_2 ++ [wrap64 ((wrap64 (x5_2 * a0)) + (wrap64 (x4_1 - x5_2)))]):=⟨_,rfl⟩
       replace H:(impl_scanOrder.l1 k2 a0 y390 x4_1 (wrap64 (x5_2 + 1)))=some r:=by subst hy390;exact H
       have Ny390:=am hy390;clear hy390;have H':=am H;clear H;go_wp2_with (first|((with_reducible refine gate_builtin (b:=.append) (xs:=#[.tmp 39,.tmp 45]) rfl ?_);at_builtin;refine Kd.R_append (Kd.int .i64) (w0:=w) w.heap.size rfl (.tmp 39) (.tmp 45) 33 3 (.int .i64 0) 8 rfl Tryz.underlying33 info3 rfl (by decide) (by omega) u3 x3_2 (wrap64 ((wrap64 (x5_2 * a0)) + (wrap64 (x4_1 - x5_2)))) [.int .i64 (wrap64 ((wrap64 (x5_2 * a0)) + (wrap64 (x4_1 - x5_2))))] (fun _=>True) (fun _=>False) rfl rfl ?aP (fun _ hk=>hk.elim) ?aF ?aO ?aB ?aS ?aL ?_;(case aP=>exact rfl);(case aB=>exact (bo HB));(case aF=>exact (fun _ _=>trivial));(case aO=>exact (ro HO_3.out));(case aS=>exact (below_size (bo HB)));(case aL=>have:=LMc13.out;omega);intro v391 w14 ho hb hg hat;rw [← Ny390.out] at ho;have HO392:=am (ho);replace HB:=am (hb);clear HO_3;clear ho hb hg hat));go_roundg k2;case measure=>have:=HK1.out;have:=HK2.out;omega
       case rel=>exact ⟨(y390),(wrap64 (x5_2 + 1)),rv,H',⟨by have:=HK1.out;have:=HK2.out;omega⟩,(ra HO392.out),bh HB⟩
      ·rw [if_neg c13] at H;cases H
mutual
def impl_Unscanned.j0:Nat→Int→List Int→Bool→Option (List Int × Bool)
 | 0,_,_,_=>none
 | k + 1,x0,x1,x22=>if x22=true then (some ((([]:List Int)),false)) else (if 0≤(x1.length:Int) then (if ((x1.length:Int):Int).toNat≤35184372088832 then ((impl_scanOrder.f k x0).bind fun t399=>(impl_Unscanned.l0 k x1 (List.replicate ((x1.length:Int):Int).toNat 0) t399 (t399.length:Int) 0)) else (none)) else (none))
def impl_Unscanned.l0:Nat→List Int→List Int→List Int→Int→Int→Option (List Int × Bool)
 | 0,_,_,_,_,_=>none
 | k + 1,x1,x6,x28,x29,x30=>if x30 < x29 then (if 0≤x30 then (if x30 < (x28.length:Int) then (if x30 < (x1.length:Int) then (if 0≤(rd x28 x30) then (if (rd x28 x30) < (x6.length:Int) then (impl_Unscanned.l0 k x1 (x6.set ((rd x28 x30):Int).toNat (rd x1 x30)) x28 x29 (wrap64 (x30 + 1))) else (none)) else (none)) else (none)) else (none)) else (none)) else (some (x6,true))
end
def impl_Unscanned.f (k:Nat) (a0:Int) (l1:List Int):Option (List Int × Bool):=if a0=4 then (impl_Unscanned.j0 k a0 l1 ((l1.length:Int) != (wrap64 (a0 * a0)))) else (if a0=8 then (impl_Unscanned.j0 k a0 l1 ((l1.length:Int) != (wrap64 (a0 * a0)))) else (impl_Unscanned.j0 k a0 l1 true))
theorem impl_Unscanned.calls (k:Nat) (a0:Int) (A1:Option Addr) (c1:Nat) (l1:List Int) (r1:List Int) (r2:Bool) (w:World) (hr1:Kd.C (Kd.int .i64) w A1 l1.length l1) (hc1:l1.length≤c1) (h:impl_Unscanned.f k a0 l1=some (r1,r2)) :
  Calls Tryz.prog 58 #[.int .i64 a0,.slice A1 l1.length c1] w fun e w'=>∃ v0_:Value,e=.returned (.tuple #[v0_,.bool r2])∧Kd.R (Kd.int .i64) 3 w' w.heap.size (fun _=>True) v0_ r1∧Below w.heap.size w w':=by
 have HR1:=am hr1;have HC1:=am hc1;clear hr1 hc1;have HB:=am (Below.refl w.heap.size w);have H:=h;clear h;unfold impl_Unscanned.f at H;have HC3:=am H;clear H;go_enter Tryz.func58,Tryz.ntmps58;go_upto_region 1 with (fail)
 go_cut [22] (fun v22 wc=>∃ (kq:Nat) (x22_2:Bool),v22=.bool x22_2∧Aside0 (impl_Unscanned.j0 kq a0 l1 x22_2=some (r1,r2))∧Aside0 (kq≤k)∧Aside0 (Below w.heap.size w wc))
 case first =>
  have H:=HC3.out;clear HC3;replace H:=ife H;rcases H with ⟨-,c4b0,c4b1,H⟩ | ⟨c4,c4b0,c4b1,H⟩
  ·(first | rw [c4b0]|(simp only [i64_w,i32_w];rw [c4b0]) | skip)
   have H':=am H;clear H;go_wp2;go_meet;case rel=>exact ⟨_,(((l1.length:Int) != (wrap64 (a0 * a0)))),rv,H',om,bh HB⟩
  ·(first | rw [c4b0]|(simp only [i64_w,i32_w];rw [c4b0]) | skip)
   replace H:=ife H;rcases H with ⟨-,c5b0,c5b1,H⟩ | ⟨c5,c5b0,c5b1,H⟩
   ·have H':=am H;clear H;go_wp2;go_meet;case rel=>exact ⟨_,(((l1.length:Int) != (wrap64 (a0 * a0)))),rv,H',om,bh HB⟩
   ·have H':=am H;clear H;go_wp2;go_meet;case rel=>exact ⟨_,(true),rv,H',om,bh HB⟩
 case rest =>
  clear HC3;obtain ⟨kq,x22_2,rfl,HA,HJ2,HB⟩:=hcut;cases kq with
  | zero=>exact absurd HA.out (by simp [impl_Unscanned.j0])
  | succ kj2 =>
   have H:=HA.out;clear HA;simp only [impl_Unscanned.j0] at H;replace H:=ifb H;rcases H with ⟨rfl,H⟩ | ⟨rfl,H⟩
   ·obtain ⟨y393,hy393⟩:∃ y_:List Int,y_=(([]:List Int)):=⟨_,rfl⟩
    replace H:(some (y393,false))=some (r1,r2):=by subst hy393;exact H
    have Ny393:=am hy393;clear hy393;obtain ⟨rfl,rfl⟩:=sj2 H;go_wp2_with (first|((with_reducible refine gd 23 ?_);(try (refine gate_guard (by rfl) ?_;dsimp only));refine Kd.R_lit (Kd.int .i64) _ 3 ?hg (N:=23) ?hd (xs:=([]:List Int)) (inner:=[]) (ok:=fun _=>True) (okp:=fun _=>True) ?hr ?hp (fun _ hk=>hk) trivial (Below.refl _ _) (Nat.le_refl _) (by simp) ?_;(case hd=>rfl);(case hg=>rfl);(case hr=>first|(go_simp;done)|(go_simp;rfl));(case hp=>exact (Reps.none _ _));intro v394 w7 ho8 hb hg_ hnew_;clear hg_ hnew_;(first | rw [← Ny393.out] at ho8|(simp only [Int.reduceToNat] at ho8;rw [← Ny393.out] at ho8));have HO395:=am (Kd.R_lower ho8 (below_size (bo HB)));replace HB:=bs HB hb;clear hb ho8));go_ret2
    exact ⟨_,re,ro HO395.out,bo HB⟩
   ·by_cases c9:0≤(l1.length:Int);rotate_left
    ·rw [if_neg c9] at H;cases H
    rw [if_pos c9] at H;have c9b0:=eq_true c9;have c9b1:=decide_eq_true c9;clear c9;replace H:=ifn H;obtain ⟨c10,H⟩:=H;have c10b0:=eq_true c10;have c10b1:=decide_eq_true c10;clear c10;obtain ⟨y396,hy396⟩:∃ y_:List Int,y_=(List.replicate ((l1.length:Int):Int).toNat 0):=⟨_,rfl⟩
    replace H:((impl_scanOrder.f kj2 a0).bind fun t399=>(impl_Unscanned.l0 kj2 l1 y396 t399 (t399.length:Int) 0))=some (r1,r2):=by subst hy396;exact H
    have Ny396:=am hy396;clear hy396;replace H:=bnd H;obtain ⟨t399,A11,H⟩:=H;have H':=am H;clear H;go_wp2_with (first|((with_reducible refine gd 26 ?_);(try (refine gate_guard (by rfl) ?_;dsimp only));refine Kd.R_make (Kd.int .i64) _ 3 rfl (N:=26) rfl 33 _ _ rfl (l1.length:Int) rfl rfl Tryz.underlying33 (.int .i64 0) 8 info3 rfl (by decide) (by omega) 0 (ok:=fun _=>True) (okp:=fun _=>True) rfl (fun _ hk=>hk) trivial (od) (Nat.le_trans (Nat.mul_le_mul_right _ (od:(l1.length:Int).toNat≤35184372088832)) (by omega)) (Below.refl _ _) (Nat.le_refl _) ?_;intro v397 w12 ho13 hb hg_ hnew_;clear hg_ hnew_;(first | rw [← Ny396.out] at ho13|(simp only [Int.reduceToNat] at ho13;rw [← Ny396.out] at ho13));have HO398:=am (Kd.R_lower ho13 (below_size (bo HB)));replace HB:=bs HB hb;clear hb ho13)|((with_reducible refine gc 82 ?_);refine gX (some 28) Tryz.func82 _ (impl_scanOrder.calls _ _ _ _ A11.out) ?_;rintro v400 w14 ⟨ho0,hb⟩;have HO401:=am (Kd.R_lower (Kd.R_new' ho0 (Kd.R_lt (ro HO398.out))) (below_size (bo HB)));replace HO398:=am (Kd.R_elder' (ro HO398.out) (Kd.R_base ho0) hb);replace HB:=bs HB hb;(try clear hb);(try clear ho0);obtain ⟨Ao15,co15,eo15⟩:=Kd.R_slice HO401.out;subst eo15));go_loopg [30] kj2 (fun kq v30 w'=>∃ (x6_2:List Int) (x30_2:Int),v30=.int .i64 x30_2∧Aside0 (impl_Unscanned.l0 kq l1 x6_2 t399 (t399.length:Int) x30_2=some (r1,r2))∧Aside0 (kq≤kj2)∧Aside0 (Kd.R (Kd.int .i64) 3 w' w.heap.size (fun k_=>some k_≠((.slice Ao15 t399.length co15):Value).ownBlock) v397 x6_2)∧Aside0 (Kd.R (Kd.int .i64) 3 w' w.heap.size (fun k_=>some k_≠(v397:Value).ownBlock) (.slice Ao15 t399.length co15) t399)∧Aside0 (Below w.heap.size w w'))
    case atStart=>exact ⟨(y396),(0),rv,H',⟨Nat.le_refl _⟩,(ra (Kd.R_mono HO398.out (fun _ hk=>hk.2))),(ra (Kd.R_mono HO401.out (fun _ hk=>hk.2))),bh HB⟩
    case round =>
     clear H';obtain ⟨x6_2,x30_2,rfl,HA,HK2,HO_6,HO_28,HB⟩:=hrel;cases gk with
     | zero=>exact absurd HA.out (by simp [impl_Unscanned.l0])
     | succ k2 =>
      have H:=HA.out;clear HA;simp only [impl_Unscanned.l0] at H;replace H:=ifd H;rcases H with ⟨c16b0,H⟩ | ⟨c16b0,H⟩;rotate_left
      ·obtain ⟨rfl,rfl⟩:=sj2 H;go_wp2;go_ret2
       exact ⟨_,re,ro (Kd.R_mono HO_6.out (fun _ hk=>trivial)),bo HB⟩
      replace H:=ifN H;obtain ⟨c17b0,H⟩:=H;replace H:=ifN H;obtain ⟨c18b0,H⟩:=H;replace H:=ifN H;obtain ⟨c19b0,H⟩:=H;replace H:=ifN H;obtain ⟨c20b0,H⟩:=H;replace H:=ifN H;obtain ⟨c21b0,H⟩:=H;obtain ⟨y404,hy404⟩:∃ y_:List Int,y_=(x6_2.set ((rd t399 x30_2):Int).toNat (rd l1 x30_2)):=⟨_,rfl⟩
      replace H:(impl_Unscanned.l0 k2 l1 y404 t399 (t399.length:Int) (wrap64 (x30_2 + 1)))=some (r1,r2):=by subst hy404;exact H
      have Ny404:=am hy404;clear hy404;have H':=am H;clear H;have p402:0≤(x30_2:Int):=od;have q402:x30_2 < (t399.length:Int):=od;obtain ⟨ad402,e402,hx402_0⟩:=Kd.at_int (Kd.R_reads' HO_28.out).2.2 x30_2 p402 q402;cases e402;replace p402:=eq_true p402;replace q402:=eq_true q402;have p403:0≤(x30_2:Int):=od;have q403:x30_2 < (l1.length:Int):=od;obtain ⟨ad403,e403,hx403_0⟩:=Kd.at_int HR1.out x30_2 p403 q403;cases e403;replace hx403_0:=(HB.out.cell (World.block_lt_of_cell? w _ hx403_0)).trans hx403_0;replace p403:=eq_true p403;replace q403:=eq_true q403;have p22:0≤((rd t399 x30_2):Int):=od;have q22:((rd t399 x30_2):Int) < ((x6_2.length:Int):Int):=od;obtain ⟨go22,co22,eo22,gb22,gl22,cl22,HG22⟩:=Kd.R_form HO_6.out (by omega);(first | cases eo22|(injection eo22 with ea_ en_ ec_;(first | subst ea_|(injection ea_ with ea_;subst ea_));subst ec_;clear en_))
      have GB22:=am gb22;have GG22:=am HG22;clear gb22 gl22 HG22;obtain ⟨hx22_0,hf22_0⟩:=Kd.R_celln 0 HO_6.out ((rd t399 x30_2):Int) p22 q22;replace p22:=eq_true p22;replace q22:=eq_true q22;have HP23:=Kd.R_putg HO_6.out ((rd t399 x30_2):Int) (rd l1 x30_2);go_wp2_with (first|((with_reducible refine gate_store (t:=3) (p:=41) rfl ?_);refine store_event (t:=3) (p:=41) (v:=?vo_w24) (w1:=(wr.setCell ⟨go22,((rd t399 x30_2):Int).toNat,none⟩ (.int .i64 (rd l1 x30_2)))) ?hg ?ho ?hn ?hr ?_;(case ho=>rfl);(case hg=>rfl);(case hn=>rfl);(case hr=>first|(go_simp;done)|(go_simp;rfl));intro w24 hw;have hg:wr.grownBy w24 (some go22):=(by rw [hw];exact HP23.2);have hp_:Kd.R (Kd.int .i64) 3 w24 w.heap.size (fun k_=>some k_≠(.slice (some ad402) t399.length co15:Value).ownBlock) (.slice (some ⟨go22,0,none⟩) x6_2.length co22) y404:=(by rw [hw,Ny404.out];exact HP23.1);clear HP23;replace HO_6:=am (hp_);replace HO_28:=am (Kd.R_after (v:=(.slice (some ⟨go22,0,none⟩) x6_2.length co22)) (v1:=(.slice (some ⟨go22,0,none⟩) x6_2.length co22)) (ok:=(fun _=>True)) (ro (Kd.R_mono HO_28.out (fun _ hk=>⟨trivial,hk⟩))) hg (.inl rfl));replace HB:=am ((by rw [hw];exact below_set (HB.out) GB22.out:Below w.heap.size w w24));clear hg hw hp_));go_roundg k2;case measure=>have:=HJ2.out;have:=HK2.out;omega
      case rel=>exact ⟨(y404),(wrap64 (x30_2 + 1)),rv,H',⟨by have:=HJ2.out;have:=HK2.out;omega⟩,(ra HO_6.out),(ra (Kd.R_mono HO_28.out (fun _ hk=>hk.2))),bh HB⟩
def impl_StepOf.f (a0:Int):Option (Int):=(impl_within.f a0 0 40).bind fun t405=>(if t405=true then ((some (([10,11,13,14,16,18]:List Int):List Int)).bind fun y406=>(if 0≤(Int.tmod a0 6) then (if (Int.tmod a0 6) < (y406.length:Int) then (if 0≤(wrap64 (Int.tdiv a0 6)) then (some (shl .i64 (rd y406 (Int.tmod a0 6)) (wrap64 (Int.tdiv a0 6)))) else (none)) else (none)) else (none))) else (some 0))
theorem impl_StepOf.calls (a0:Int) (r:Int) (w:World) (h:impl_StepOf.f a0=some r) :
  Calls Tryz.prog 83 #[.int .i64 a0] w fun e w'=>e=.returned (.int .i64 r)∧Below w.heap.size w w':=by
 have HB:=am (Below.refl w.heap.size w);have H:=h;clear h;unfold impl_StepOf.f at H;replace H:=bnd H;obtain ⟨t405,A2,H⟩:=H;replace H:=ifb H;rcases H with ⟨rfl,H⟩ | ⟨rfl,H⟩;rotate_left
 ·obtain rfl:=sj H;go_enter Tryz.func83,Tryz.ntmps83;go_wp2_with (first|((with_reducible refine gc 14 ?_);refine gD (some 4) Tryz.func14 _ (impl_within.calls _ _ _ _ _ A2.out) ?_;intro nd));go_ret;exact ⟨re,bo HB⟩
 replace H:=yl H;obtain ⟨y406,Ny406,H⟩:=H;obtain ⟨ji4,hji4⟩:∃ j_:Int,(Int.tmod a0 6)=j_:=⟨_,rfl⟩
 replace H:(if 0≤(ji4) then (if (ji4) < (y406.length:Int) then (if 0≤(wrap64 (Int.tdiv a0 6)) then (some (shl .i64 (rd y406 (ji4)) (wrap64 (Int.tdiv a0 6)))) else (none)) else (none)) else (none))=some r:=by first|(rw [hji4] at H;exact H)|(simp only [hji4] at H ⊢;exact H)
 (try rw [hji4] at A2)
 replace H:=ifN H;obtain ⟨c5b0,H⟩:=H;replace H:=ifN H;obtain ⟨c6b0,H⟩:=H;obtain ⟨ji7,hji7⟩:∃ j_:Int,(wrap64 (Int.tdiv a0 6))=j_:=⟨_,rfl⟩
 replace H:(if 0≤(ji7) then (some (shl .i64 (rd y406 (ji4)) (ji7))) else (none))=some r:=by first|(rw [hji7] at H;exact H)|(simp only [hji7] at H ⊢;exact H)
 (try rw [hji7] at A2)
 have hji7w:(IntKind.i64.wrap (Int.tdiv a0 6))=ji7:=(i64_w _).trans hji7;replace H:=ifn H;obtain ⟨c8,H⟩:=H;have c8b0:=eq_true c8;have c8b1:=decide_eq_true c8;clear c8;obtain ⟨ji9,hji9⟩:∃ j_:Int,(shl .i64 (rd y406 (ji4)) (ji7))=j_:=⟨_,rfl⟩
 replace H:(some ji9)=some r:=by first|(rw [hji9] at H;exact H)|(simp only [hji9] at H ⊢;exact H)
 (try rw [hji9] at A2)
 have hji9_:(IntKind.i64.wrap ((rd y406 (ji4)) * 2 ^ min (ji7).toNat 64))=ji9:=hji9;have hji9z:(ji7)≤64→(IntKind.i64.wrap ((rd y406 (ji4)) * 2 ^ (ji7).toNat))=ji9:=shl_small hji9;have hji9y:(wrap64 ((rd y406 (ji4)) * 2 ^ min (ji7).toNat 64))=ji9:=(i64_w _).symm.trans hji9_;have hji9x:(ji7)≤64→(wrap64 ((rd y406 (ji4)) * 2 ^ (ji7).toNat))=ji9:=fun h_=>(i64_w _).symm.trans (hji9z h_)
 obtain rfl:=sj H;go_enter Tryz.func83,Tryz.ntmps83;go_wp2_with (first|((with_reducible refine gc 14 ?_);refine gD (some 4) Tryz.func14 _ (impl_within.calls _ _ _ _ _ A2.out) ?_;intro nd)|((with_reducible refine gd 6 ?_);refine Kd.R_lit (Kd.int .i64) _ 3 ?hg (N:=6) ?hd (xs:=([10,11,13,14,16,18]:List Int)) (inner:=[.int .i64 10,.int .i64 11,.int .i64 13,.int .i64 14,.int .i64 16,.int .i64 18]) (ok:=fun _=>True) (okp:=fun _=>True) ?hr ?hp (fun _ hk=>hk) trivial (Below.refl _ _) (Nat.le_refl _) (by simp) ?_;(case hd=>rfl);(case hg=>rfl);(case hr=>first|(go_simp;done)|(go_simp;rfl));(case hp=>exact (Reps.one (show Kd.M (Kd.int .i64) _ _ _ 10 [.int .i64 10] from rfl) (Reps.one (show Kd.M (Kd.int .i64) _ _ _ 11 [.int .i64 11] from rfl) (Reps.one (show Kd.M (Kd.int .i64) _ _ _ 13 [.int .i64 13] from rfl) (Reps.one (show Kd.M (Kd.int .i64) _ _ _ 14 [.int .i64 14] from rfl) (Reps.one (show Kd.M (Kd.int .i64) _ _ _ 16 [.int .i64 16] from rfl) (Reps.one (show Kd.M (Kd.int .i64) _ _ _ 18 [.int .i64 18] from rfl) (Reps.none _ _))))))));intro v407 w10 ho11 hb hg_ hnew_;clear hg_ hnew_;(first | rw [← Ny406.out] at ho11|(simp only [Int.reduceToNat] at ho11;rw [← Ny406.out] at ho11));have HO408:=am (Kd.R_lower ho11 (below_size (bo HB)));replace HB:=bs HB hb;clear hb ho11;obtain ⟨Ao12,co12,eo12⟩:=Kd.R_slice HO408.out;subst eo12;have p409:0≤((ji4):Int):=od;have q409:(ji4) < (y406.length:Int):=od;obtain ⟨ad409,e409,hx409_0⟩:=Kd.at_int (Kd.R_reads' HO408.out).2.2 (ji4) p409 q409;cases e409;replace p409:=eq_true p409;replace q409:=eq_true q409));go_ret;exact ⟨by first | rfl|(simp [errW_none,errW_some] <;> rfl)|(simp only [← hji4,← hji7,← hji9];first | rfl|(simp [errW_none,errW_some] <;> rfl))|(simp [*,errW_none,errW_some] <;> rfl),bo HB⟩
def impl_LargeBack.f (a0:Int) (a1:Int):Option (Int):=(impl_within.f a0 (-5000) 5000).bind fun t410=>(if t410=true then ((impl_StepOf.f a1).bind fun t411=>(some (wrap64 (a0 * t411)))) else (some 0))
theorem impl_LargeBack.calls (a0:Int) (a1:Int) (r:Int) (w:World) (h:impl_LargeBack.f a0 a1=some r) :
  Calls Tryz.prog 59 #[.int .i64 a0,.int .i64 a1] w fun e w'=>e=.returned (.int .i64 r)∧Below w.heap.size w w':=by
 have HB:=am (Below.refl w.heap.size w);have H:=h;clear h;unfold impl_LargeBack.f at H;replace H:=bnd H;obtain ⟨t410,A3,H⟩:=H;replace H:=ifb H;rcases H with ⟨rfl,H⟩ | ⟨rfl,H⟩
 ·replace H:=bnd H;obtain ⟨t411,A5,H⟩:=H;obtain rfl:=sj H;go_enter Tryz.func59,Tryz.ntmps59;go_wp2_with (first|((with_reducible refine gc 14 ?_);refine gD (some 6) Tryz.func14 _ (impl_within.calls _ _ _ _ _ A3.out) ?_;intro nd)|((with_reducible refine gc 83 ?_);refine gB (some 10) Tryz.func83 _ (impl_StepOf.calls _ _ _ A5.out) ?_;intro w6 hb;replace HB:=bs HB hb));go_ret;exact ⟨re,bo HB⟩
 ·obtain rfl:=sj H;go_enter Tryz.func59,Tryz.ntmps59;go_wp2_with (first|((with_reducible refine gc 14 ?_);refine gD (some 6) Tryz.func14 _ (impl_within.calls _ _ _ _ _ A3.out) ?_;intro nd));go_ret;exact ⟨re,bo HB⟩
def impl_floor.f (a0:Int) (a1:Int):Option (Int):=if a1=0 then (none) else (if (Int.tmod a0 a1) < 0 then (some (wrap64 ((wrap64 (Int.tdiv a0 a1)) - 1))) else (some (wrap64 (Int.tdiv a0 a1))))
theorem impl_floor.calls (a0:Int) (a1:Int) (r:Int) (w:World) (h:impl_floor.f a0 a1=some r) :
  Calls Tryz.prog 89 #[.int .i64 a0,.int .i64 a1] w fun e w'=>e=.returned (.int .i64 r)∧Drawn0 w w':=by
 have H:=h;clear h;unfold impl_floor.f at H;by_cases c3:a1=0
 ·rw [if_pos c3] at H;cases H
 ·rw [if_neg c3] at H;obtain ⟨c3b0,c3b1⟩:=eqf c3;replace H:=ifd H;rcases H with ⟨c4b0,H⟩ | ⟨c4b0,H⟩
  ·obtain rfl:=sj H;go_enter Tryz.func89,Tryz.ntmps89;go_wp2;go_ret;exact ⟨rv,dr⟩
  ·obtain rfl:=sj H;go_enter Tryz.func89,Tryz.ntmps89;go_wp2;go_ret;exact ⟨rv,dr⟩
def impl_settled.l0:Nat→List Int→Int→Int→Option (List Int)
 | 0,_,_,_=>none
 | k + 1,x0,x6,x7=>if x7 < x6 then (if 0≤x7 then (if x7 < (x0.length:Int) then ((impl_floor.f (wrap64 ((rd x0 x7) + 32)) 64).bind fun t413=>(impl_settled.l0 k (x0.set (x7:Int).toNat t413) x6 (wrap64 (x7 + 1)))) else (none)) else (none)) else (some x0)
def impl_settled.f (k:Nat) (l0:List Int):Option (List Int):=impl_settled.l0 k l0 (l0.length:Int) 0
theorem impl_settled.calls (k:Nat) (P0_:Nat→Prop) (u9000_:Value) (l0:List Int) (r:List Int) (w0 w:World) (hB:Below w0.heap.size w0 w) (ho0:Kd.R (Kd.int .i64) 3 w w0.heap.size P0_ u9000_ l0) (h:impl_settled.f k l0=some r) :
  Calls Tryz.prog 84 #[u9000_] w fun e w'=>∃ v0_:Value,e=.returned (v0_)∧Kd.R (Kd.int .i64) 3 w' w0.heap.size (fun k_=>(P0_ k_∨w.heap.size≤k_)) v0_ r∧Below w0.heap.size w0 w'∧Kept w w' (fun k_=>P0_ k_):=by
 have HO0:=am (show Kd.R (Kd.int .i64) 3 w w0.heap.size (fun k_=>(P0_ k_∨w.heap.size≤k_)) u9000_ l0 from Kd.R_mono ho0 (fun k_ hk=>(.inl hk)));have HK:=am (Kept.refl w (fun k_=>P0_ k_));have HW0:=am hB.size;have HB:=am hB;clear hB;have H:=h;clear h;unfold impl_settled.f at H;have H':=am H;clear H;obtain ⟨Ao2,co2,eo2⟩:=Kd.R_slice HO0.out;subst eo2;go_enter Tryz.func84,Tryz.ntmps84;go_wp2;go_loopg [7] k (fun kq v7 w'=>∃ (x0_1:List Int) (x7_1:Int),v7=.int .i64 x7_1∧Aside0 (impl_settled.l0 kq x0_1 (l0.length:Int) x7_1=some r)∧Aside0 (kq≤k)∧Aside0 (Kd.R (Kd.int .i64) 3 w' w0.heap.size (fun k_=>(P0_ k_∨w.heap.size≤k_)) (.slice Ao2 l0.length co2) x0_1)∧Aside0 (Kept w w' (fun k_=>P0_ k_))∧Aside0 (Below w0.heap.size w0 w'))
 case atStart=>exact ⟨(l0),(0),rv,H',⟨Nat.le_refl _⟩,(ra HO0.out),⟨by repeat (first|(with_reducible first | exact HK.out | apply Kept.alloc | apply Kept.drewN | apply Kept.drew) | exact HK.out)⟩,bh HB⟩
 case round =>
  clear H';obtain ⟨x0_1,x7_1,rfl,HA,HK1,HO_0,HK,HB⟩:=hrel;have hl0_1:=(Kd.R_reads' HO_0.out).1;rw [hl0_1] at HO_0;(try simp only [hl0_1])
  cases gk with
  | zero=>exact absurd HA.out (by simp [impl_settled.l0])
  | succ k1 =>
   have H:=HA.out;clear HA;simp only [impl_settled.l0] at H;by_cases c3:x7_1 < (l0.length:Int);rotate_left
   ·rw [if_neg c3] at H;have c3b0:=decide_eq_false c3;(try (have c3b0h:=c3b0;simp only [hl0_1] at c3b0h))
    clear c3;obtain rfl:=sj H;go_wp2;go_ret;exact ⟨_,re,ro HO_0.out,by repeat (first|(with_reducible first | exact HB.out | apply below_alloc | apply pw_below_drewN | apply below_drew1) | exact HB.out),by repeat (first|(with_reducible first | exact HK.out | apply Kept.alloc | apply Kept.drewN | apply Kept.drew) | exact HK.out)⟩
   rw [if_pos c3] at H;have c3b0:=decide_eq_true c3;(try (have c3b0h:=c3b0;simp only [hl0_1] at c3b0h))
   clear c3;replace H:=ifn H;obtain ⟨c4,H⟩:=H;have c4b0:=decide_eq_true c4;(try (have c4b0h:=c4b0;simp only [hl0_1] at c4b0h))
   clear c4;replace H:=ifn H;obtain ⟨c5,H⟩:=H;have c5b0:=decide_eq_true c5;(try (have c5b0h:=c5b0;simp only [hl0_1] at c5b0h))
   clear c5;replace H:=bnd H;obtain ⟨t413,A6,H⟩:=H;obtain ⟨y414,hy414⟩:∃ y_:List Int,y_=(x0_1.set (x7_1:Int).toNat t413):=⟨_,rfl⟩
   replace H:(impl_settled.l0 k1 y414 (l0.length:Int) (wrap64 (x7_1 + 1)))=some r:=by subst hy414;exact H
   have Ny414:=am hy414;clear hy414;have H':=am H;clear H;have p412:0≤(x7_1:Int):=od;have q412:x7_1 < (x0_1.length:Int):=od;obtain ⟨ad412,e412,hx412_0⟩:=Kd.at_int (Kd.R_reads' HO_0.out).2.2 x7_1 p412 q412;cases e412;replace p412:=eq_true p412;replace q412:=eq_true q412;go_wp2_with (first|((with_reducible refine gc 89 ?_);refine gD (some 16) Tryz.func89 _ (impl_floor.calls _ _ _ _ A6.out) ?_ (hargs:=(by (try simp only [List.map_toArray,List.map_cons,List.map_nil]);first | done | rfl|(rw [show (wrap64 ((rd x0_1 x7_1) + 32))=((rd x0_1 x7_1) + 32) from by unfold wrap64;omega];rfl)|(simp only [List.length_drop,List.length_take];rfl)));intro nd;(try (rw [drewN_self wr];generalize hq_:World.drewN wr _=wr;have n0_:Aside0 (Kd.R (Kd.int .i64) 3 wr w0.heap.size (fun k_=>((P0_ k_∨w.heap.size≤k_))) (.slice (some ad412) x0_1.length co2) x0_1):=⟨by rw [← hq_];exact (ro HO_0.out)⟩;have n1_:Aside0 (Kept w wr (fun k_=>P0_ k_)):=⟨by rw [← hq_];exact (by repeat (first|(with_reducible first | exact HK.out | apply Kept.alloc | apply Kept.drewN | apply Kept.drew) | exact HK.out))⟩;have n2_:Aside0 (Below w0.heap.size w0 wr):=⟨by rw [← hq_];exact (bo HB)⟩;clear HO_0 HK HB hq_;have HO_0:=n0_;have HK:=n1_;have HB:=n2_;clear n0_ n1_ n2_));have p7:0≤(x7_1:Int):=od;have q7:(x7_1:Int) < ((x0_1.length:Int):Int):=od;obtain ⟨go7,co7,eo7,gb7,gl7,cl7,HG7⟩:=Kd.R_form HO_0.out (by omega);(first | cases eo7|(injection eo7 with ea_ en_ ec_;(first | subst ea_|(injection ea_ with ea_;subst ea_));subst ec_;clear en_));have GB7:=am gb7;have GG7:=am HG7;clear gb7 gl7 HG7;have HMgo7:=am (show (P0_ go7∨w.heap.size≤go7) from (HO_0.out.1 _ rfl));(first | simp only [add_plain] at hx412_0 | skip);obtain ⟨hx7_0,hf7_0⟩:=Kd.R_celln 0 HO_0.out (x7_1:Int) p7 q7;replace p7:=eq_true p7;replace q7:=eq_true q7;obtain ⟨hy8_,hz8_⟩:=Kd.R_celln 0 HO_0.out (x7_1:Int) (od) (od);have HP8:=Kd.R_putg HO_0.out (x7_1:Int) t413)|((with_reducible refine gate_store (t:=3) (p:=17) rfl ?_);refine store_event (t:=3) (p:=17) (v:=?vo_w9) (w1:=(wr.setCell ⟨go7,(x7_1:Int).toNat,none⟩ (.int .i64 t413))) ?hg ?ho ?hn ?hr ?_;(case ho=>rfl);(case hg=>rfl);(case hn=>rfl);(case hr=>first|(go_simp;done)|(go_simp;rfl));intro w9 hw;have hg:wr.grownBy w9 (some go7):=(by rw [hw];exact HP8.2);have hp_:Kd.R (Kd.int .i64) 3 w9 w0.heap.size (fun k_=>(P0_ k_∨w.heap.size≤k_)) (.slice (some ⟨go7,0,none⟩) x0_1.length co2) y414:=(by rw [hw,Ny414.out];exact HP8.1);clear HP8;replace HB:=am ((by rw [hw];exact below_set (HB.out) GB7.out:Below w0.heap.size w0 w9));replace HK:=am (Kept.of_grown (S:=(fun k_=>P0_ k_)) hg (by repeat (first|(with_reducible first | exact HK.out | apply Kept.alloc | apply Kept.drewN | apply Kept.drew) | exact HK.out)) (fun k_ e_=>(HO_0.out.1 k_ e_)));replace HO_0:=am (hp_);clear hg hw hp_));(try simp only [← hl0_1])
   go_roundg k1;case measure=>have:=HK1.out;omega
   case rel=>exact ⟨(y414),(wrap64 (x7_1 + 1)),rv,H',⟨by have:=HK1.out;omega⟩,⟨by (try simp only [hl0_1]);(with_reducible repeat (first | apply Kd.R_alloc | apply Kd.R_drewN | apply Kd.R_drew));exact HO_0.out⟩,⟨by repeat (first|(with_reducible first | exact HK.out | apply Kept.alloc | apply Kept.drewN | apply Kept.drew) | exact HK.out)⟩,bh HB⟩
def impl_SignOf.j0:Nat→Int→Int→Bool→Option (Int)
 | 0,_,_,_=>none
 | k + 1,x0,x1,x13=>if x13=true then (some 0) else (if (Int.tmod (wrap64 ((wrap64 ((Go.bits .and .i64 (Go.bits .and .i64 x0 x1) 1) + (Go.bits .and .i64 ((Go.bits .and .i64 x0 x1) / 2) 1))) + (Go.bits .and .i64 ((Go.bits .and .i64 x0 x1) / 4) 1))) 2)=0 then (some 1) else (some (-1)))
def impl_SignOf.f (k:Nat) (a0:Int) (a1:Int):Option (Int):=(impl_within.f a0 0 7).bind fun t415=>(if t415=true then ((impl_within.f a1 0 7).bind fun t416=>(impl_SignOf.j0 k a0 a1 (!t416))) else (impl_SignOf.j0 k a0 a1 true))
theorem impl_SignOf.mono_l:∀ k,(∀ y0 y1 y2,LeO (impl_SignOf.j0 k y0 y1 y2) (impl_SignOf.j0 (k + 1) y0 y1 y2))
 | 0=>fun _ _ _ r h=>by simp [impl_SignOf.j0] at h
 | k + 1=>by
  have ih0:=impl_SignOf.mono_l k
  ·intro y0 y1 y2;unfold impl_SignOf.j0
   repeat' first
   | (with_reducible exact ih0 _ _ _)
   | (with_reducible exact LeO.refl _)
   | (with_reducible exact LeO.none _)
   | (with_reducible refine LeO.ite ?_ ?_)
   | (with_reducible refine LeO.bind ?_ (fun _=>?_))
   | exact ih0 _ _ _
   | exact LeO.none _
   | refine LeO.ite ?_ ?_
   | refine LeO.bind ?_ (fun _=>?_)
theorem impl_SignOf.mono:∀ a0 a1 k,LeO (impl_SignOf.f k a0 a1) (impl_SignOf.f (k + 1) a0 a1):=by
 intro a0 a1 k;have ih0:=impl_SignOf.mono_l k;unfold impl_SignOf.f
 repeat' first
   | (with_reducible exact ih0 _ _ _)
   | (with_reducible exact LeO.refl _)
   | (with_reducible exact LeO.none _)
   | (with_reducible refine LeO.ite ?_ ?_)
   | (with_reducible refine LeO.bind ?_ (fun _=>?_))
   | exact ih0 _ _ _
   | exact LeO.none _
   | refine LeO.ite ?_ ?_
   | refine LeO.bind ?_ (fun _=>?_)
theorem impl_SignOf.calls (k:Nat) (a0:Int) (a1:Int) (r:Int) (w:World) (h:impl_SignOf.f k a0 a1=some r) :
  Calls Tryz.prog 98 #[.int .i64 a0,.int .i64 a1] w fun e w'=>e=.returned (.int .i64 r)∧Drawn0 w w':=by
 have H:=h;clear h;unfold impl_SignOf.f at H;have HC3:=am H;clear H;go_enter Tryz.func98,Tryz.ntmps98;go_upto_region 1 with (fail)
 go_cut [13] (fun v13 wc=>∃ (kq:Nat) (x13_2:Bool),v13=.bool x13_2∧Aside0 (impl_SignOf.j0 kq a0 a1 x13_2=some r)∧Aside0 (kq≤k)∧Drawn0 w wc)
 case first =>
  have H:=HC3.out;clear HC3;replace H:=bnd H;obtain ⟨t415,A4,H⟩:=H;replace H:=ifb H;rcases H with ⟨rfl,H⟩ | ⟨rfl,H⟩
  ·replace H:=bnd H;obtain ⟨t416,A6,H⟩:=H;have H':=am H;clear H;go_wp2_with (first|((with_reducible refine gc 14 ?_);refine gD (some 7) Tryz.func14 _ (impl_within.calls _ _ _ _ _ A4.out) ?_;intro nd)|(go_at_call 14;(with_reducible refine (impl_within.calls a1 0 7 t416 _ A6.out).mono ?_);rintro e w' ⟨rfl,⟨nd,rfl⟩⟩));go_meet;case rel=>exact ⟨_,(!t416),rv,H',om,dr⟩
  ·have H':=am H;clear H;go_wp2_with (first|((with_reducible refine gc 14 ?_);refine gD (some 7) Tryz.func14 _ (impl_within.calls _ _ _ _ _ A4.out) ?_;intro nd));go_meet;case rel=>exact ⟨_,(true),rv,H',om,dr⟩
 case rest =>
  clear HC3;obtain ⟨kq,x13_2,rfl,HA,HJ2,⟨mc2,rfl⟩⟩:=hcut;cases kq with
  | zero=>exact absurd HA.out (by simp [impl_SignOf.j0])
  | succ kj2 =>
   have H:=HA.out;clear HA;simp only [impl_SignOf.j0] at H;replace H:=ifb H;rcases H with ⟨rfl,H⟩ | ⟨rfl,H⟩
   ·obtain rfl:=sj H;go_wp2;go_ret;exact ⟨rv,dr⟩
   ·replace H:=ife H;rcases H with ⟨-,c8b0,c8b1,H⟩ | ⟨c8,c8b0,c8b1,H⟩
    ·obtain rfl:=sj H;go_wp2;go_ret;exact ⟨rv,dr⟩
    ·obtain rfl:=sj H;go_wp2;go_ret;exact ⟨rv,dr⟩
mutual
def impl_sums.l0:Nat→List Int→List Int→Int→Option (List Int)
 | 0,_,_,_=>none
 | k + 1,x0,x3,x12=>if x12 < 8 then (impl_sums.l1 k x0 x3 x12 x12 0) else (if 64≤35184372088832 then (impl_sums.l3 k x3 (List.replicate 64 0) 0) else (none))
def impl_sums.l1:Nat→List Int→List Int→Int→Int→Int→Option (List Int)
 | 0,_,_,_,_,_=>none
 | k + 1,x0,x3,x4,x12,x15=>if x15 < 8 then (impl_sums.l2 k x0 x3 x4 x15 x12 x15 0) else (impl_sums.l0 k x0 x3 (wrap64 (x12 + 1)))
def impl_sums.l2:Nat→List Int→List Int→Int→Int→Int→Int→Int→Option (List Int)
 | 0,_,_,_,_,_,_,_=>none
 | k + 1,x0,x3,x4,x5,x12,x15,x18=>if x18 < 8 then (if 0≤(wrap64 ((wrap64 (8 * x4)) + x5)) then (if (wrap64 ((wrap64 (8 * x4)) + x5)) < (x3.length:Int) then ((impl_SignOf.f k x5 x18).bind fun t421=>(if 0≤(wrap64 ((wrap64 (8 * x4)) + x18)) then (if (wrap64 ((wrap64 (8 * x4)) + x18)) < (x0.length:Int) then (impl_sums.l2 k x0 (x3.set ((wrap64 ((wrap64 (8 * x4)) + x5)):Int).toNat (wrap64 ((rd x3 (wrap64 ((wrap64 (8 * x4)) + x5))) + (wrap64 (t421 * (rd x0 (wrap64 ((wrap64 (8 * x4)) + x18)))))))) x4 x5 x12 x15 (wrap64 (x18 + 1))) else (none)) else (none))) else (none)) else (none)) else (impl_sums.l1 k x0 x3 x4 x12 (wrap64 (x15 + 1)))
def impl_sums.l3:Nat→List Int→List Int→Int→Option (List Int)
 | 0,_,_,_=>none
 | k + 1,x3,x7,x50=>if x50 < 8 then (impl_sums.l4 k x3 x7 x50 x50 0) else (some x7)
def impl_sums.l4:Nat→List Int→List Int→Int→Int→Int→Option (List Int)
 | 0,_,_,_,_,_=>none
 | k + 1,x3,x7,x8,x50,x53=>if x53 < 8 then (impl_sums.l5 k x3 x7 x8 x53 x50 x53 0) else (impl_sums.l3 k x3 x7 (wrap64 (x50 + 1)))
def impl_sums.l5:Nat→List Int→List Int→Int→Int→Int→Int→Int→Option (List Int)
 | 0,_,_,_,_,_,_,_=>none
 | k + 1,x3,x7,x8,x9,x50,x53,x56=>if x56 < 8 then (if 0≤(wrap64 ((wrap64 (8 * x8)) + x9)) then (if (wrap64 ((wrap64 (8 * x8)) + x9)) < (x7.length:Int) then ((impl_SignOf.f k x8 x56).bind fun t428=>(if 0≤(wrap64 ((wrap64 (8 * x56)) + x9)) then (if (wrap64 ((wrap64 (8 * x56)) + x9)) < (x3.length:Int) then (impl_sums.l5 k x3 (x7.set ((wrap64 ((wrap64 (8 * x8)) + x9)):Int).toNat (wrap64 ((rd x7 (wrap64 ((wrap64 (8 * x8)) + x9))) + (wrap64 (t428 * (rd x3 (wrap64 ((wrap64 (8 * x56)) + x9)))))))) x8 x9 x50 x53 (wrap64 (x56 + 1))) else (none)) else (none))) else (none)) else (none)) else (impl_sums.l4 k x3 x7 x8 x50 (wrap64 (x53 + 1)))
end
def impl_sums.f (k:Nat) (l0:List Int):Option (List Int):=if 64≤35184372088832 then (impl_sums.l0 k l0 (List.replicate 64 0) 0) else (none)
def impl_sums.T11:Bool × List (List Nat × List Nat):=(true,[([],[]),([],[]),([1],[1]),([],[]),([2,3],[2,3]),([],[]),([],[]),([6],[6]),([],[]),([7,8],[7,8]),([5,9],[5,9]),([10],[10]),([],[]),([],[]),([12,13],[12,13]),([],[]),([],[]),([16],[16]),([],[]),([17,18],[17,18]),([15,19],[15,19]),([20],[20]),([14,21],[14,21]),([11,22],[11,22]),([0,4,0,1,2,3,4,5,6,7,8,9,10,11,12,13,14,15,16,17,18,19,20,21,22,23],[0,4]),([24,23,14,0,1,2,3,4,5,6,7,8,9,10,11,12,13,14,15,16,17,18,19,20,21,22,23],[23,24])])
def impl_sums.B11:List Nat:=[0,0,2,0,14,0,0,64,0,448,992,2016,0,0,12288,0,0,65536,0,458752,1015808,2064384,4190208,8388576,16777215,33554431]
theorem impl_sums.tab11:rtab .any (opsOf Tryz.f85 11)=impl_sums.T11:=by kernel_rfl
theorem impl_sums.bits11:waitsOk impl_sums.T11.2 impl_sums.B11=true:=by kernel_rfl
def impl_sums.T25:Bool × List (List Nat × List Nat):=(true,[([],[]),([],[]),([1],[1]),([],[]),([2,3],[2,3]),([],[]),([],[]),([6],[6]),([],[]),([7,8],[7,8]),([5,9],[5,9]),([10],[10]),([],[]),([],[]),([12,13],[12,13]),([],[]),([],[]),([16],[16]),([],[]),([17,18],[17,18]),([15,19],[15,19]),([20],[20]),([14,21],[14,21]),([11,22],[11,22]),([0,4,0,1,2,3,4,5,6,7,8,9,10,11,12,13,14,15,16,17,18,19,20,21,22,23],[0,4]),([24,23,14,0,1,2,3,4,5,6,7,8,9,10,11,12,13,14,15,16,17,18,19,20,21,22,23],[23,24])])
def impl_sums.B25:List Nat:=[0,0,2,0,14,0,0,64,0,448,992,2016,0,0,12288,0,0,65536,0,458752,1015808,2064384,4190208,8388576,16777215,33554431]
theorem impl_sums.tab25:rtab .any (opsOf Tryz.f85 25)=impl_sums.T25:=by kernel_rfl
theorem impl_sums.bits25:waitsOk impl_sums.T25.2 impl_sums.B25=true:=by kernel_rfl
theorem impl_sums.calls (k:Nat) (A0:Option Addr) (c0:Nat) (l0:List Int) (r:List Int) (w:World) (hr0:Kd.C (Kd.int .i64) w A0 l0.length l0) (hc0:l0.length≤c0) (h:impl_sums.f k l0=some r) :
  Calls Tryz.prog 85 #[.slice A0 l0.length c0] w fun e w'=>∃ v0_:Value,e=.returned (v0_)∧Kd.R (Kd.int .i64) 3 w' w.heap.size (fun _=>True) v0_ r∧Below w.heap.size w w':=by
 have HR0:=am hr0;have HC0:=am hc0;clear hr0 hc0;have HB:=am (Below.refl w.heap.size w);have H:=h;clear h;unfold impl_sums.f at H;by_cases c2:64≤35184372088832;rotate_left
 ·rw [if_neg c2] at H;cases H
 rw [if_pos c2] at H;have c2b0:=eq_true c2;have c2b1:=decide_eq_true c2;clear c2;obtain ⟨y417,hy417⟩:∃ y_:List Int,y_=(List.replicate 64 0):=⟨_,rfl⟩
 replace H:(impl_sums.l0 k l0 y417 0)=some r:=by subst hy417;exact H
 have Ny417:=am hy417;clear hy417;have H':=am H;clear H;go_enter Tryz.func85,Tryz.ntmps85;go_wp2_with (first|((with_reducible refine gd 11 ?_);refine Kd.R_make (Kd.int .i64) _ 3 rfl (N:=11) rfl 33 _ _ rfl 64 rfl rfl Tryz.underlying33 (.int .i64 0) 8 info3 rfl (by decide) (by omega) 0 (ok:=fun _=>True) (okp:=fun _=>True) rfl (fun _ hk=>hk) trivial (by omega) (by omega) (Below.refl _ _) (Nat.le_refl _) ?_;intro v418 w3 ho4 hb hg_ hnew_;clear hg_ hnew_;(first | rw [← Ny417.out] at ho4|(simp only [Int.reduceToNat] at ho4;rw [← Ny417.out] at ho4));have HO419:=am (Kd.R_lower ho4 (below_size (bo HB)));replace HB:=bs HB hb;clear hb ho4));go_loopg [12] k (fun kq v12 w'=>∃ (x3_1:List Int) (x12_1:Int),v12=.int .i64 x12_1∧Aside0 (impl_sums.l0 kq l0 x3_1 x12_1=some r)∧Aside0 (kq≤k)∧Aside0 (Kd.R (Kd.int .i64) 3 w' w.heap.size (fun _=>True) v418 x3_1)∧Aside0 (Below w.heap.size w w'))
 case atStart=>exact ⟨(y417),(0),rv,H',⟨Nat.le_refl _⟩,(ra HO419.out),bh HB⟩
 case round =>
  clear H';obtain ⟨x3_1,x12_1,rfl,HA,HK1,HO_3,HB⟩:=hrel;cases gk with
  | zero=>exact absurd HA.out (by simp [impl_sums.l0])
  | succ k1 =>
   have H:=HA.out;clear HA;simp only [impl_sums.l0] at H;replace H:=ifd H;rcases H with ⟨c5b0,H⟩ | ⟨c5b0,H⟩
   ·have H':=am H;clear H;go_wp2;go_loopg [15] k1 (fun kq v15 w'=>∃ (x3_2:List Int) (x15_2:Int),v15=.int .i64 x15_2∧Aside0 (impl_sums.l1 kq l0 x3_2 x12_1 x12_1 x15_2=some r)∧Aside0 (kq≤k1)∧Aside0 (Kd.R (Kd.int .i64) 3 w' w.heap.size (fun _=>True) v418 x3_2)∧Aside0 (Below w.heap.size w w'))
    case atStart=>exact ⟨(x3_1),(0),rv,H',⟨Nat.le_refl _⟩,(ra HO_3.out),bh HB⟩
    case round =>
     clear H';obtain ⟨x3_2,x15_2,rfl,HA,HK2,HO_3,HB⟩:=hrel;cases gk with
     | zero=>exact absurd HA.out (by simp [impl_sums.l1])
     | succ k2 =>
      have H:=HA.out;clear HA;simp only [impl_sums.l1] at H;replace H:=ifd H;rcases H with ⟨c6b0,H⟩ | ⟨c6b0,H⟩;rotate_left
      ·have H':=am H;clear H;go_wp2;go_roundg k2;case measure=>have:=HK1.out;have:=HK2.out;omega
       case rel=>exact ⟨(x3_2),(wrap64 (x12_1 + 1)),rv,H',⟨by have:=HK1.out;have:=HK2.out;omega⟩,(ra HO_3.out),bh HB⟩
      have H':=am H;clear H;go_wp2;go_loopg [18] k2 (fun kq v18 w'=>∃ (x3_3:List Int) (x18_3:Int),v18=.int .i64 x18_3∧Aside0 (impl_sums.l2 kq l0 x3_3 x12_1 x15_2 x12_1 x15_2 x18_3=some r)∧Aside0 (kq≤k2)∧Aside0 (Kd.R (Kd.int .i64) 3 w' w.heap.size (fun _=>True) v418 x3_3)∧Aside0 (Below w.heap.size w w'))
      case atStart=>exact ⟨(x3_2),(0),rv,H',⟨Nat.le_refl _⟩,(ra HO_3.out),bh HB⟩
      case round =>
       clear H';obtain ⟨x3_3,x18_3,rfl,HA,HK3,HO_3,HB⟩:=hrel;cases gk with
       | zero=>exact absurd HA.out (by simp [impl_sums.l2])
       | succ k3 =>
        have H:=HA.out;clear HA;simp only [impl_sums.l2] at H;replace H:=ifd H;rcases H with ⟨c7b0,H⟩ | ⟨c7b0,H⟩;rotate_left
        ·have H':=am H;clear H;go_wp2;go_roundg k3;case measure=>have:=HK1.out;have:=HK2.out;have:=HK3.out;omega
         case rel=>exact ⟨(x3_3),(wrap64 (x15_2 + 1)),rv,H',⟨by have:=HK1.out;have:=HK2.out;have:=HK3.out;omega⟩,(ra HO_3.out),bh HB⟩
        obtain ⟨ji8,hji8⟩:∃ j_:Int,(wrap64 ((wrap64 (8 * x12_1)) + x15_2))=j_:=⟨_,rfl⟩
        replace H:(if 0≤(ji8) then (if (ji8) < (x3_3.length:Int) then ((impl_SignOf.f k3 x15_2 x18_3).bind fun t421=>(if 0≤(wrap64 ((wrap64 (8 * x12_1)) + x18_3)) then (if (wrap64 ((wrap64 (8 * x12_1)) + x18_3)) < (l0.length:Int) then (impl_sums.l2 k3 l0 (x3_3.set ((ji8):Int).toNat (wrap64 ((rd x3_3 (ji8)) + (wrap64 (t421 * (rd l0 (wrap64 ((wrap64 (8 * x12_1)) + x18_3)))))))) x12_1 x15_2 x12_1 x15_2 (wrap64 (x18_3 + 1))) else (none)) else (none))) else (none)) else (none))=some r:=by first|(rw [hji8] at H;exact H)|(simp only [hji8] at H ⊢;exact H)
        have hji8w:(IntKind.i64.wrap ((wrap64 (8 * x12_1)) + x15_2))=ji8:=(i64_w _).trans hji8;replace H:=ifN H;obtain ⟨c9b0,H⟩:=H;replace H:=ifN H;obtain ⟨c10b0,H⟩:=H;replace H:=bnd H;obtain ⟨t421,A11,H⟩:=H;obtain ⟨ji12,hji12⟩:∃ j_:Int,(wrap64 ((wrap64 (8 * x12_1)) + x18_3))=j_:=⟨_,rfl⟩
        replace H:(if 0≤(ji12) then (if (ji12) < (l0.length:Int) then (impl_sums.l2 k3 l0 (x3_3.set ((ji8):Int).toNat (wrap64 ((rd x3_3 (ji8)) + (wrap64 (t421 * (rd l0 (ji12))))))) x12_1 x15_2 x12_1 x15_2 (wrap64 (x18_3 + 1))) else (none)) else (none))=some r:=by first|(rw [hji12] at H;exact H)|(simp only [hji12] at H ⊢;exact H)
        (try rw [hji12] at A11)
        have hji12w:(IntKind.i64.wrap ((wrap64 (8 * x12_1)) + x18_3))=ji12:=(i64_w _).trans hji12;replace H:=ifN H;obtain ⟨c13b0,H⟩:=H;replace H:=ifN H;obtain ⟨c14b0,H⟩:=H;obtain ⟨y423,hy423⟩:∃ y_:List Int,y_=(x3_3.set ((ji8):Int).toNat (wrap64 ((rd x3_3 (ji8)) + (wrap64 (t421 * (rd l0 (ji12))))))):=⟨_,rfl⟩
        replace H:(impl_sums.l2 k3 l0 y423 x12_1 x15_2 x12_1 x15_2 (wrap64 (x18_3 + 1)))=some r:=by subst hy423;exact H
        have Ny423:=am hy423;clear hy423;have H':=am H;clear H;try go_wp2
        replace HO_3:=am (Kd.R_drew HO_3.out);replace HB:=am (below_drew1 HB.out);obtain ⟨Ao17,co17,eo17⟩:=Kd.R_slice HO_3.out;(first | subst eo17|(injection eo17 with f1_ f2_ f3_;have f4_:=f1_.symm;have f5_:=f3_.symm;clear f1_ f2_ f3_;subst f4_;subst f5_))
        have p420:0≤((ji8):Int):=od;have q420:(ji8) < (x3_3.length:Int):=od;obtain ⟨ad420,e420,hx420_0⟩:=Kd.at_int (Kd.R_reads' HO_3.out).2.2 (ji8) p420 q420;cases e420;replace p420:=eq_true p420;replace q420:=eq_true q420;have p422:0≤((ji12):Int):=od;have q422:(ji12) < (l0.length:Int):=od;obtain ⟨ad422,e422,hx422_0⟩:=Kd.at_int HR0.out (ji12) p422 q422;have hw422_0:=hx422_0;cases e422;replace hx422_0:=(HB.out.cell (World.block_lt_of_cell? w _ hx422_0)).trans hx422_0;replace p422:=eq_true p422;replace q422:=eq_true q422;refine start_ (n:=26) (S:=fun w'=>w'.cell? (ad420.add ((ji8)).toNat)=some (.int .i64 (rd x3_3 (ji8)))∧w'.cell? (ad422.add ((ji12)).toNat)=some (.int .i64 (rd l0 (ji12)))) (ds:=[25]) (ba 26 0) (by kernel_rfl) rfl rfl ⟨hx420_0,(hcl HB hw422_0)⟩ (fun hHeld=>?_);refine with_tabW impl_sums.tab11 impl_sums.bits11 (fun HT_ HW_=>?_);generalize wr.drew=w16 at HO_3 HB hx420_0 hx422_0 hHeld ⊢;refine pu 0 21 (ba 26 1) ?_;refine pu 1 22 (ba 26 3) ?_;refine pu 2 23 (ba 26 7) ?_;refine pu 3 24 (ba 26 15) ?_;refine pu 4 25 (ba 26 31) ?_;refine pu 5 26 (ba 26 63) ?_;refine pu 6 27 (ba 26 127) ?_;refine pu 7 28 (ba 26 255) ?_;refine pu 8 29 (ba 26 511) ?_;refine pu 9 30 (ba 26 1023) ?_;refine pu 10 31 (ba 26 2047) ?_;refine pu 12 33 (ba 26 6143) ?_;refine pu 13 34 (ba 26 14335) ?_;refine pu 15 36 (ba 26 47103) ?_;refine pu 16 37 (ba 26 112639) ?_;refine pu 17 38 (ba 26 243711) ?_;refine pu 18 39 (ba 26 505855) ?_;refine pu 19 40 (ba 26 1030143) ?_;refine pu 20 41 (ba 26 2078719) ?_;refine tk 11 32 (ba 26 2080767) hHeld ?_;refine tk 21 42 (ba 26 4177919) hHeld ?_;refine on 14 35 (ba 26 4194303) (fun K hK=>?_);refine gS Tryz.func98 #[.int .i64 x15_2,.int .i64 x18_3] ?_
        with_reducible refine (impl_SignOf.calls k3 x15_2 x18_3 t421 _ A11.out).mono ?_
        rintro e w' ⟨rfl,⟨nd,rfl⟩⟩;refine ⟨_,rfl,?_⟩;have p15:0≤((ji8):Int):=od;have q15:((ji8):Int) < ((x3_3.length:Int):Int):=od;obtain ⟨go15,co15,eo15,gb15,gl15,cl15,HG15⟩:=Kd.R_form HO_3.out (by omega);(first | cases eo15|(injection eo15 with ea_ en_ ec_;(first | subst ea_|(injection ea_ with ea_;subst ea_));subst ec_;clear en_))
        have GB15:=am gb15;have GG15:=am HG15;clear gb15 gl15 HG15;(first | simp only [add_plain] at hx420_0 | skip)
        obtain ⟨hx15_0,hf15_0⟩:=Kd.R_celln 0 HO_3.out ((ji8):Int) p15 q15;replace p15:=eq_true p15;replace q15:=eq_true q15;have HP18:=Kd.R_putn HO_3.out ((ji8):Int) (wrap64 ((rd x3_3 (ji8)) + (wrap64 (t421 * (rd l0 (ji12))))));rw [← Ny423.out] at HP18;have HQ18:=am HP18;clear HP18;refine hK.out _ _ ⟨hHeld.1,(hcl HB hw422_0)⟩ (fun hHeld=>?_);clear hK K;refine nm ?_;refine pu 22 43 (ba 26 8388607) ?_;refine pu 23 44 (ba 26 16777215) ?_;refine pu 24 45 (ba 26 33554431) ?_;refine last_ (i:=25) (N:=none) (ba 26 67108863) rfl rfl (one_of HT_.out (by kernel_rfl)) (by decide) (fun K hK=>?_);refine sk ?_;refine hK.out _ _ ?_;clear hK K;refine done_ (done_of HT_.out (by kernel_rfl)) ?_;try go_wp2
        go_roundg k3;case measure=>have:=HK1.out;have:=HK2.out;have:=HK3.out;omega
        case rel=>exact ⟨(y423),(wrap64 (x18_3 + 1)),rv,H',⟨by have:=HK1.out;have:=HK2.out;have:=HK3.out;omega⟩,(ra HQ18.out),bh HB⟩
   ·replace H:=ifn H;obtain ⟨c19,H⟩:=H;have c19b0:=eq_true c19;have c19b1:=decide_eq_true c19;clear c19;obtain ⟨y424,hy424⟩:∃ y_:List Int,y_=(List.replicate 64 0):=⟨_,rfl⟩
    replace H:(impl_sums.l3 k1 x3_1 y424 0)=some r:=by subst hy424;exact H
    have Ny424:=am hy424;clear hy424;have H':=am H;clear H;go_wp2_with (first|((with_reducible refine gd 49 ?_);refine Kd.R_make (Kd.int .i64) _ 3 rfl (N:=49) rfl 33 _ _ rfl 64 rfl rfl Tryz.underlying33 (.int .i64 0) 8 info3 rfl (by decide) (by omega) 0 (ok:=fun _=>True) (okp:=fun _=>True) rfl (fun _ hk=>hk) trivial (by omega) (by omega) (Below.refl _ _) (Nat.le_refl _) ?_;intro v425 w20 ho21 hb hg_ hnew_;clear hg_ hnew_;(first | rw [← Ny424.out] at ho21|(simp only [Int.reduceToNat] at ho21;rw [← Ny424.out] at ho21));have HO426:=am (Kd.R_lower (Kd.R_new' ho21 (Kd.R_lt (ro HO_3.out))) (below_size (bo HB)));replace HO_3:=am (Kd.R_elder' (ro HO_3.out) (Kd.R_base ho21) hb);replace HB:=bs HB hb;clear hb ho21));go_loopg [50] k1 (fun kq v50 w'=>∃ (x7_2:List Int) (x50_2:Int),v50=.int .i64 x50_2∧Aside0 (impl_sums.l3 kq x3_1 x7_2 x50_2=some r)∧Aside0 (kq≤k1)∧Aside0 (Kd.R (Kd.int .i64) 3 w' w.heap.size (fun k_=>some k_≠(v425:Value).ownBlock) v418 x3_1)∧Aside0 (Kd.R (Kd.int .i64) 3 w' w.heap.size (fun k_=>some k_≠(v418:Value).ownBlock) v425 x7_2)∧Aside0 (Below w.heap.size w w'))
    case atStart=>exact ⟨(y424),(0),rv,H',⟨Nat.le_refl _⟩,(ra (Kd.R_mono HO_3.out (fun _ hk=>hk.2))),(ra (Kd.R_mono HO426.out (fun _ hk=>hk.2))),bh HB⟩
    case round =>
     clear H';try clear q1
     try clear hx1
     try clear hf1
     try clear q4
     try clear hx4
     try clear q15
     try clear hx15
     try clear hf15
     try clear hx15_0
     try clear hx420_0
     try clear hx422_0
     try clear q15
     try clear q420
     try clear q422
     obtain ⟨x7_2,x50_2,rfl,HA,HK2,HO_3,HO_7,HB⟩:=hrel;cases gk with
     | zero=>exact absurd HA.out (by simp [impl_sums.l3])
     | succ k2 =>
      have H:=HA.out;clear HA;simp only [impl_sums.l3] at H;replace H:=ifd H;rcases H with ⟨c22b0,H⟩ | ⟨c22b0,H⟩;rotate_left
      ·obtain rfl:=sj H;go_wp2;go_ret;exact ⟨_,re,ro (Kd.R_mono HO_7.out (fun _ hk=>trivial)),bo HB⟩
      have H':=am H;clear H;go_wp2;go_loopg [53] k2 (fun kq v53 w'=>∃ (x7_3:List Int) (x53_3:Int),v53=.int .i64 x53_3∧Aside0 (impl_sums.l4 kq x3_1 x7_3 x50_2 x50_2 x53_3=some r)∧Aside0 (kq≤k2)∧Aside0 (Kd.R (Kd.int .i64) 3 w' w.heap.size (fun k_=>some k_≠(v425:Value).ownBlock) v418 x3_1)∧Aside0 (Kd.R (Kd.int .i64) 3 w' w.heap.size (fun k_=>some k_≠(v418:Value).ownBlock) v425 x7_3)∧Aside0 (Below w.heap.size w w'))
      case atStart=>exact ⟨(x7_2),(0),rv,H',⟨Nat.le_refl _⟩,(ra HO_3.out),(ra HO_7.out),bh HB⟩
      case round =>
       clear H';try clear q1
       try clear hx1
       try clear hf1
       try clear q4
       try clear hx4
       try clear q15
       try clear hx15
       try clear hf15
       try clear hx15_0
       try clear hx420_0
       try clear hx422_0
       try clear q1
       try clear q15
       try clear q4
       try clear q420
       try clear q422
       obtain ⟨x7_3,x53_3,rfl,HA,HK3,HO_3,HO_7,HB⟩:=hrel;cases gk with
       | zero=>exact absurd HA.out (by simp [impl_sums.l4])
       | succ k3 =>
        have H:=HA.out;clear HA;simp only [impl_sums.l4] at H;replace H:=ifd H;rcases H with ⟨c23b0,H⟩ | ⟨c23b0,H⟩;rotate_left
        ·have H':=am H;clear H;go_wp2;go_roundg k3;case measure=>have:=HK1.out;have:=HK2.out;have:=HK3.out;omega
         case rel=>exact ⟨(x7_3),(wrap64 (x50_2 + 1)),rv,H',⟨by have:=HK1.out;have:=HK2.out;have:=HK3.out;omega⟩,(ra HO_3.out),(ra HO_7.out),bh HB⟩
        have H':=am H;clear H;go_wp2;go_loopg [56] k3 (fun kq v56 w'=>∃ (x7_4:List Int) (x56_4:Int),v56=.int .i64 x56_4∧Aside0 (impl_sums.l5 kq x3_1 x7_4 x50_2 x53_3 x50_2 x53_3 x56_4=some r)∧Aside0 (kq≤k3)∧Aside0 (Kd.R (Kd.int .i64) 3 w' w.heap.size (fun k_=>some k_≠(v425:Value).ownBlock) v418 x3_1)∧Aside0 (Kd.R (Kd.int .i64) 3 w' w.heap.size (fun k_=>some k_≠(v418:Value).ownBlock) v425 x7_4)∧Aside0 (Below w.heap.size w w'))
        case atStart=>exact ⟨(x7_3),(0),rv,H',⟨Nat.le_refl _⟩,(ra HO_3.out),(ra HO_7.out),bh HB⟩
        case round =>
         clear H';try clear q1
         try clear hx1
         try clear hf1
         try clear q4
         try clear hx4
         try clear q15
         try clear hx15
         try clear hf15
         try clear hx15_0
         try clear hx420_0
         try clear hx422_0
         try clear q1
         try clear q15
         try clear q4
         try clear q420
         try clear q422
         obtain ⟨x7_4,x56_4,rfl,HA,HK4,HO_3,HO_7,HB⟩:=hrel;cases gk with
         | zero=>exact absurd HA.out (by simp [impl_sums.l5])
         | succ k4 =>
          have H:=HA.out;clear HA;simp only [impl_sums.l5] at H;replace H:=ifd H;rcases H with ⟨c24b0,H⟩ | ⟨c24b0,H⟩;rotate_left
          ·have H':=am H;clear H;go_wp2;go_roundg k4;case measure=>have:=HK1.out;have:=HK2.out;have:=HK3.out;have:=HK4.out;omega
           case rel=>exact ⟨(x7_4),(wrap64 (x53_3 + 1)),rv,H',⟨by have:=HK1.out;have:=HK2.out;have:=HK3.out;have:=HK4.out;omega⟩,(ra HO_3.out),(ra HO_7.out),bh HB⟩
          obtain ⟨ji25,hji25⟩:∃ j_:Int,(wrap64 ((wrap64 (8 * x50_2)) + x53_3))=j_:=⟨_,rfl⟩
          replace H:(if 0≤(ji25) then (if (ji25) < (x7_4.length:Int) then ((impl_SignOf.f k4 x50_2 x56_4).bind fun t428=>(if 0≤(wrap64 ((wrap64 (8 * x56_4)) + x53_3)) then (if (wrap64 ((wrap64 (8 * x56_4)) + x53_3)) < (x3_1.length:Int) then (impl_sums.l5 k4 x3_1 (x7_4.set ((ji25):Int).toNat (wrap64 ((rd x7_4 (ji25)) + (wrap64 (t428 * (rd x3_1 (wrap64 ((wrap64 (8 * x56_4)) + x53_3)))))))) x50_2 x53_3 x50_2 x53_3 (wrap64 (x56_4 + 1))) else (none)) else (none))) else (none)) else (none))=some r:=by first|(rw [hji25] at H;exact H)|(simp only [hji25] at H ⊢;exact H)
          have hji25w:(IntKind.i64.wrap ((wrap64 (8 * x50_2)) + x53_3))=ji25:=(i64_w _).trans hji25;replace H:=ifN H;obtain ⟨c26b0,H⟩:=H;replace H:=ifN H;obtain ⟨c27b0,H⟩:=H;replace H:=bnd H;obtain ⟨t428,A28,H⟩:=H;obtain ⟨ji29,hji29⟩:∃ j_:Int,(wrap64 ((wrap64 (8 * x56_4)) + x53_3))=j_:=⟨_,rfl⟩
          replace H:(if 0≤(ji29) then (if (ji29) < (x3_1.length:Int) then (impl_sums.l5 k4 x3_1 (x7_4.set ((ji25):Int).toNat (wrap64 ((rd x7_4 (ji25)) + (wrap64 (t428 * (rd x3_1 (ji29))))))) x50_2 x53_3 x50_2 x53_3 (wrap64 (x56_4 + 1))) else (none)) else (none))=some r:=by first|(rw [hji29] at H;exact H)|(simp only [hji29] at H ⊢;exact H)
          (try rw [hji29] at A28)
          have hji29w:(IntKind.i64.wrap ((wrap64 (8 * x56_4)) + x53_3))=ji29:=(i64_w _).trans hji29;replace H:=ifN H;obtain ⟨c30b0,H⟩:=H;replace H:=ifN H;obtain ⟨c31b0,H⟩:=H;obtain ⟨y430,hy430⟩:∃ y_:List Int,y_=(x7_4.set ((ji25):Int).toNat (wrap64 ((rd x7_4 (ji25)) + (wrap64 (t428 * (rd x3_1 (ji29))))))):=⟨_,rfl⟩
          replace H:(impl_sums.l5 k4 x3_1 y430 x50_2 x53_3 x50_2 x53_3 (wrap64 (x56_4 + 1)))=some r:=by subst hy430;exact H
          have Ny430:=am hy430;clear hy430;have H':=am H;clear H;try go_wp2
          replace HO_3:=am (Kd.R_drew HO_3.out);replace HO_7:=am (Kd.R_drew HO_7.out);replace HB:=am (below_drew1 HB.out);obtain ⟨Ao34,co34,eo34⟩:=Kd.R_slice HO_7.out;(first | subst eo34|(injection eo34 with f1_ f2_ f3_;have f4_:=f1_.symm;have f5_:=f3_.symm;clear f1_ f2_ f3_;subst f4_;subst f5_))
          have p427:0≤((ji25):Int):=od;have q427:(ji25) < (x7_4.length:Int):=od;obtain ⟨ad427,e427,hx427_0⟩:=Kd.at_int (Kd.R_reads' HO_7.out).2.2 (ji25) p427 q427;cases e427;replace p427:=eq_true p427;replace q427:=eq_true q427;obtain ⟨Ao35,co35,eo35⟩:=Kd.R_slice HO_3.out;(first | subst eo35|(injection eo35 with f1_ f2_ f3_;have f4_:=f1_.symm;have f5_:=f3_.symm;clear f1_ f2_ f3_;subst f4_;subst f5_))
          have p429:0≤((ji29):Int):=od;have q429:(ji29) < (x3_1.length:Int):=od;obtain ⟨ad429,e429,hx429_0⟩:=Kd.at_int (Kd.R_reads' HO_3.out).2.2 (ji29) p429 q429;cases e429;replace p429:=eq_true p429;replace q429:=eq_true q429;refine start_ (n:=26) (S:=fun w'=>w'.cell? (ad427.add ((ji25)).toNat)=some (.int .i64 (rd x7_4 (ji25)))∧w'.cell? (ad429.add ((ji29)).toNat)=some (.int .i64 (rd x3_1 (ji29)))) (ds:=[25]) (ba 26 0) (by kernel_rfl) rfl rfl ⟨hx427_0,hx429_0⟩ (fun hHeld=>?_);refine with_tabW impl_sums.tab25 impl_sums.bits25 (fun HT_ HW_=>?_);generalize wr.drew=w33 at HO_3 HO_7 HB hx427_0 hx429_0 hHeld ⊢;refine pu 0 59 (ba 26 1) ?_;refine pu 1 60 (ba 26 3) ?_;refine pu 2 61 (ba 26 7) ?_;refine pu 3 62 (ba 26 15) ?_;refine pu 4 63 (ba 26 31) ?_;refine pu 5 64 (ba 26 63) ?_;refine pu 6 65 (ba 26 127) ?_;refine pu 7 66 (ba 26 255) ?_;refine pu 8 67 (ba 26 511) ?_;refine pu 9 68 (ba 26 1023) ?_;refine pu 10 69 (ba 26 2047) ?_;refine pu 12 71 (ba 26 6143) ?_;refine pu 13 72 (ba 26 14335) ?_;refine pu 15 74 (ba 26 47103) ?_;refine pu 16 75 (ba 26 112639) ?_;refine pu 17 76 (ba 26 243711) ?_;refine pu 18 77 (ba 26 505855) ?_;refine pu 19 78 (ba 26 1030143) ?_;refine pu 20 79 (ba 26 2078719) ?_;refine tk 11 70 (ba 26 2080767) hHeld ?_;refine tk 21 80 (ba 26 4177919) hHeld ?_;refine on 14 73 (ba 26 4194303) (fun K hK=>?_);refine gS Tryz.func98 #[.int .i64 x50_2,.int .i64 x56_4] ?_
          with_reducible refine (impl_SignOf.calls k4 x50_2 x56_4 t428 _ A28.out).mono ?_
          rintro e w' ⟨rfl,⟨nd,rfl⟩⟩;refine ⟨_,rfl,?_⟩;have p32:0≤((ji25):Int):=od;have q32:((ji25):Int) < ((x7_4.length:Int):Int):=od;obtain ⟨go32,co32,eo32,gb32,gl32,cl32,HG32⟩:=Kd.R_form HO_7.out (by omega);(first | cases eo32|(injection eo32 with ea_ en_ ec_;(first | subst ea_|(injection ea_ with ea_;subst ea_));subst ec_;clear en_))
          have GB32:=am gb32;have GG32:=am HG32;clear gb32 gl32 HG32;(first | simp only [add_plain] at hx427_0 | skip)
          obtain ⟨hx32_0,hf32_0⟩:=Kd.R_celln 0 HO_7.out ((ji25):Int) p32 q32;replace p32:=eq_true p32;replace q32:=eq_true q32;have HP36:=Kd.R_putn HO_7.out ((ji25):Int) (wrap64 ((rd x7_4 (ji25)) + (wrap64 (t428 * (rd x3_1 (ji29))))));rw [← Ny430.out] at HP36;have HQ36:=am HP36;clear HP36;refine hK.out _ _ ⟨hHeld.1,hHeld.2⟩ (fun hHeld=>?_);clear hK K;refine nm ?_;refine pu 22 81 (ba 26 8388607) ?_;refine pu 23 82 (ba 26 16777215) ?_;refine pu 24 83 (ba 26 33554431) ?_;refine last_ (i:=25) (N:=none) (ba 26 67108863) rfl rfl (one_of HT_.out (by kernel_rfl)) (by decide) (fun K hK=>?_);refine sk ?_;refine hK.out _ _ ?_;clear hK K;refine done_ (done_of HT_.out (by kernel_rfl)) ?_;try go_wp2
          go_roundg k4;case measure=>have:=HK1.out;have:=HK2.out;have:=HK3.out;have:=HK4.out;omega
          case rel=>exact ⟨(y430),(wrap64 (x56_4 + 1)),rv,H',⟨by have:=HK1.out;have:=HK2.out;have:=HK3.out;have:=HK4.out;omega⟩,(ra (Kd.R_mono (Kd.R_far (p:=⟨go32,((ji25):Int).toNat,none⟩) (Kd.R_mono HO_3.out (fun k_ hk=>(⟨hk,fun e_=>hk (by rw [e_];rfl)⟩:_∧k_≠go32))) (fun _ hk=>hk.2) (.int .i64 (wrap64 ((rd x7_4 (ji25)) + (wrap64 (t428 * (rd x3_1 (ji29)))))))) (fun _ hk=>hk.1))),(ra HQ36.out),bh HB⟩
def impl_EightBack.f (k:Nat) (l0:List Int):Option (List Int):=(impl_areIn.f k l0 64 (-10000000) 10000000).bind fun t431=>(if t431=true then ((impl_sums.f k l0).bind fun t432=>((impl_settled.f k t432).bind fun t435=>(some t435))) else (some (([]:List Int))))
theorem impl_EightBack.calls (k:Nat) (A0:Option Addr) (c0:Nat) (l0:List Int) (r:List Int) (w:World) (hr0:Kd.C (Kd.int .i64) w A0 l0.length l0) (hc0:l0.length≤c0) (h:impl_EightBack.f k l0=some r) :
  Calls Tryz.prog 60 #[.slice A0 l0.length c0] w fun e w'=>∃ v0_:Value,e=.returned (v0_)∧Kd.R (Kd.int .i64) 3 w' w.heap.size (fun _=>True) v0_ r∧Below w.heap.size w w':=by
 have HR0:=am hr0;have HC0:=am hc0;clear hr0 hc0;have HB:=am (Below.refl w.heap.size w);have H:=h;clear h;unfold impl_EightBack.f at H;replace H:=bnd H;obtain ⟨t431,A2,H⟩:=H;replace H:=ifb H;rcases H with ⟨rfl,H⟩ | ⟨rfl,H⟩
 ·replace H:=bnd H;obtain ⟨t432,A4,H⟩:=H;replace H:=bnd H;obtain ⟨t435,A5,H⟩:=H;obtain rfl:=sj H;go_enter Tryz.func60,Tryz.ntmps60;go_wp2_with (first|((with_reducible refine gc 64 ?_);refine gD (some 4) Tryz.func64 _ (impl_areIn.calls k _ _ _ _ _ _ _ _ (ca (HR0.out)) HC0.out A2.out) ?_;intro nd)|((with_reducible refine gc 85 ?_);refine gX (some 8) Tryz.func85 _ (impl_sums.calls k _ _ _ _ _ (ca (HR0.out)) HC0.out A4.out) ?_;rintro v433 w6 ⟨ho0,hb⟩;have HO434:=am (Kd.R_lower ho0 (below_size (bo HB)));replace HB:=bs HB hb;(try clear hb);(try clear ho0);obtain ⟨Ao7,co7,eo7⟩:=Kd.R_slice HO434.out;subst eo7)|((with_reducible refine gc 84 ?_);refine gL (some 9) Tryz.func84 #[.slice Ao7 t432.length co7] ?_;(with_reducible refine (impl_settled.calls k (fun k_=>some k_=(.slice Ao7 t432.length co7:Value).ownBlock) (.slice Ao7 t432.length co7) t432 t435 w _ ?side1 ?side2 A5.out).mono ?_);(case side1=>repeat (first|(with_reducible first | exact HB.out | apply below_alloc | apply pw_below_drewN | apply below_drew1) | exact HB.out));(case side2=>exact Kd.R_tight rfl HO434.out);rintro e w8 ⟨v436,rfl,ho0,hb,hkp⟩;refine ⟨_,rfl,?_⟩;have HO437:=am (Kd.R_mono (ok':=fun k_=>True) ho0 (fun k_ hk_=>trivial));replace HB:=am (hb);clear HO434;(try clear hb);(try clear hkp);(try clear ho0)));go_ret;exact ⟨_,re,ro HO437.out,bo HB⟩
 ·obtain ⟨y438,hy438⟩:∃ y_:List Int,y_=(([]:List Int)):=⟨_,rfl⟩
  replace H:(some y438)=some r:=by subst hy438;exact H
  have Ny438:=am hy438;clear hy438;obtain rfl:=sj H;go_enter Tryz.func60,Tryz.ntmps60;go_wp2_with (first|((with_reducible refine gc 64 ?_);refine gD (some 4) Tryz.func64 _ (impl_areIn.calls k _ _ _ _ _ _ _ _ (ca (HR0.out)) HC0.out A2.out) ?_;intro nd)|((with_reducible refine gd 6 ?_);refine Kd.R_lit (Kd.int .i64) _ 3 ?hg (N:=6) ?hd (xs:=([]:List Int)) (inner:=[]) (ok:=fun _=>True) (okp:=fun _=>True) ?hr ?hp (fun _ hk=>hk) trivial (Below.refl _ _) (Nat.le_refl _) (by simp) ?_;(case hd=>rfl);(case hg=>rfl);(case hr=>first|(go_simp;done)|(go_simp;rfl));(case hp=>exact (Reps.none _ _));intro v439 w9 ho10 hb hg_ hnew_;clear hg_ hnew_;(first | rw [← Ny438.out] at ho10|(simp only [Int.reduceToNat] at ho10;rw [← Ny438.out] at ho10));have HO440:=am (Kd.R_lower ho10 (below_size (bo HB)));replace HB:=bs HB hb;clear hb ho10));go_ret;exact ⟨_,re,ro HO440.out,bo HB⟩
def impl_KindOf.j0:Nat→Int→Int→Bool→Option (Int)
 | 0,_,_,_=>none
 | k + 1,x3,x4,x14=>if x14=true then (some 0) else (if x3=1 then (if x4=1 then (some 1) else (some 2)) else (some 2))
def impl_KindOf.f (k:Nat) (a0:Int):Option (Int):=(impl_within.f a0 0 15).bind fun t441=>(if t441=true then (if (Int.tmod (wrap64 (Int.tdiv a0 4)) 2)=0 then (impl_KindOf.j0 k (Int.tmod (wrap64 (Int.tdiv a0 4)) 2) (Int.tmod (Int.tmod a0 4) 2) ((Int.tmod (Int.tmod a0 4) 2) == 0)) else (impl_KindOf.j0 k (Int.tmod (wrap64 (Int.tdiv a0 4)) 2) (Int.tmod (Int.tmod a0 4) 2) false)) else (some (-1)))
theorem impl_KindOf.calls (k:Nat) (a0:Int) (r:Int) (w:World) (h:impl_KindOf.f k a0=some r) :
  Calls Tryz.prog 99 #[.int .i64 a0] w fun e w'=>e=.returned (.int .i64 r)∧Drawn0 w w':=by
 have H:=h;clear h;unfold impl_KindOf.f at H;replace H:=bnd H;obtain ⟨t441,A2,H⟩:=H;replace H:=ifb H;rcases H with ⟨rfl,H⟩ | ⟨rfl,H⟩;rotate_left
 ·obtain rfl:=sj H;go_enter Tryz.func99,Tryz.ntmps99;go_wp2_with (first|((with_reducible refine gc 14 ?_);refine gD (some 6) Tryz.func14 _ (impl_within.calls _ _ _ _ _ A2.out) ?_;intro nd));go_ret;exact ⟨rv,dr⟩
 have HC4:=am H;clear H;go_enter Tryz.func99,Tryz.ntmps99;go_upto_region 4 with (first|((with_reducible refine gc 14 ?_);refine gD (some 6) Tryz.func14 _ (impl_within.calls _ _ _ _ _ A2.out) ?_;intro nd))
 (try simp only [Act.put,List.setIfInBounds_toArray,List.set_cons_zero,List.set_cons_succ])
 go_cut [14] (fun v14 wc=>∃ (kq:Nat) (x14_3:Bool),v14=.bool x14_3∧Aside0 (impl_KindOf.j0 kq (Int.tmod (wrap64 (Int.tdiv a0 4)) 2) (Int.tmod (Int.tmod a0 4) 2) x14_3=some r)∧Aside0 (kq≤k)∧Drawn0 w wc)
 case first =>
  have H:=HC4.out;clear HC4;replace H:=ife H;rcases H with ⟨-,c5b0,c5b1,H⟩ | ⟨c5,c5b0,c5b1,H⟩
  ·(first | rw [c5b0]|(simp only [i64_w,i32_w];rw [c5b0]) | skip)
   have H':=am H;clear H;go_wp2;go_meet;case rel=>exact ⟨_,(((Int.tmod (Int.tmod a0 4) 2) == 0)),rv,H',om,dr⟩
  ·(first | rw [c5b0]|(simp only [i64_w,i32_w];rw [c5b0]) | skip)
   have H':=am H;clear H;go_wp2;go_meet;case rel=>exact ⟨_,(false),rv,H',om,dr⟩
 case rest =>
  clear HC4;obtain ⟨kq,x14_3,rfl,HA,HJ3,⟨mc3,rfl⟩⟩:=hcut;cases kq with
  | zero=>exact absurd HA.out (by simp [impl_KindOf.j0])
  | succ kj3 =>
   have H:=HA.out;clear HA;simp only [impl_KindOf.j0] at H;replace H:=ifb H;rcases H with ⟨rfl,H⟩ | ⟨rfl,H⟩
   ·obtain rfl:=sj H;go_wp2;go_ret;exact ⟨rv,dr⟩
   ·replace H:=ife H;rcases H with ⟨-,c7b0,c7b1,H⟩ | ⟨c7,c7b0,c7b1,H⟩;rotate_left
    ·obtain rfl:=sj H;go_wp2;go_ret;exact ⟨rv,dr⟩
    by_cases c8:(Int.tmod (Int.tmod a0 4) 2)=1
    ·rw [if_pos c8] at H;obtain ⟨c8b0,c8b1⟩:=eqt c8;(try (have c8b0n:=c8b0;simp only [tmod42] at c8b0n))
     (try (have c8b1n:=c8b1;simp only [tmod42] at c8b1n))
     clear c8;obtain rfl:=sj H;go_wp2;go_ret;exact ⟨rv,dr⟩
    ·rw [if_neg c8] at H;obtain ⟨c8b0,c8b1⟩:=eqf c8;(try (have c8b0n:=c8b0;simp only [tmod42] at c8b0n))
     (try (have c8b1n:=c8b1;simp only [tmod42] at c8b1n))
     obtain rfl:=sj H;go_wp2;go_ret;exact ⟨rv,dr⟩
def scaleT (q k:Int):Int:=if q=0 then (if k=0 then 10 else if k=1 then 16 else 13) else if q=1 then (if k=0 then 11 else if k=1 then 18 else 14) else if q=2 then (if k=0 then 13 else if k=1 then 20 else 16) else if q=3 then (if k=0 then 14 else if k=1 then 23 else 18) else if q=4 then (if k=0 then 16 else if k=1 then 25 else 20) else (if k=0 then 18 else if k=1 then 29 else 23)
def impl_ScaleOf.f (k:Nat) (a0:Int) (a1:Int):Option (Int):=(impl_within.f a0 0 40).bind fun t1=>(if t1=true then ((impl_within.f a1 0 15).bind fun t2=>(if t2=true then ((impl_KindOf.f k a1).bind fun t3=>(if 0≤t3∧t3 < 3 then (some (shl .i64 (scaleT (Int.tmod a0 6) t3) (wrap64 (Int.tdiv a0 6)))) else none)) else (some 0))) else (some 0))
theorem impl_ScaleOf.le (a b c:Int) (h:impl_within.f a b c=some true):b≤a∧a≤c:=by
 unfold impl_within.f at h;by_cases x:a ≥ b
 ·rw [if_pos x] at h;exact ⟨x,of_decide_eq_true (Option.some.inj h)⟩
 ·rw [if_neg x] at h;cases h
theorem impl_ScaleOf.calls (k:Nat) (a0:Int) (a1:Int) (r:Int) (w:World) (h:impl_ScaleOf.f k a0 a1=some r) :
  Calls Tryz.prog 86 #[.int .i64 a0,.int .i64 a1] w fun e w'=>e=.returned (.int .i64 r)∧Below w.heap.size w w':=by
 unfold impl_ScaleOf.f at h;obtain ⟨t1,A10,H⟩:=Option.bind_eq_some_iff.mp h;have A1:=am A10;clear A10 h;have HB:=am (Below.refl w.heap.size w);cases t1 with
 | false =>
  obtain rfl:0=r:=Option.some.inj H;clear H;go_enter Tryz.func86,Tryz.ntmps86;go_wp2_with (first|(go_at_call 14;(with_reducible refine (impl_within.calls a0 0 40 false _ A1.out).mono ?_);rintro e w' ⟨rfl,⟨nd,rfl⟩⟩));go_ret;exact ⟨rfl,pw_below_drewN HB.out _⟩
 | true =>
  rw [if_pos rfl] at H;obtain ⟨t2,A20,H⟩:=Option.bind_eq_some_iff.mp H;have A2:=am A20;clear A20;cases t2 with
  | false =>
   obtain rfl:0=r:=Option.some.inj H;clear H;go_enter Tryz.func86,Tryz.ntmps86;go_wp2_with (first|(go_at_call 14;(with_reducible refine (impl_within.calls a0 0 40 true _ A1.out).mono ?_);rintro e w' ⟨rfl,⟨nd,rfl⟩⟩)|(go_at_call 14;(with_reducible refine (impl_within.calls a1 0 15 false _ A2.out).mono ?_);rintro e w' ⟨rfl,⟨nd,rfl⟩⟩));go_ret;exact ⟨rfl,by repeat (first | exact HB.out | apply pw_below_drewN)⟩
  | true =>
   rw [if_pos rfl] at H;obtain ⟨t3,A30,H⟩:=Option.bind_eq_some_iff.mp H;have A3:=am A30;clear A30;have b0:=impl_ScaleOf.le _ _ _ A1.out;have c:0≤t3∧t3 < 3:=by
    by_cases c:0≤t3∧t3 < 3
    ·exact c
    ·rw [if_neg c] at H;cases H
   rw [if_pos c] at H;have e6:Int.tmod a0 6=a0 % 6:=Int.tmod_eq_emod_of_nonneg b0.1;have hq:Int.tmod a0 6=0∨Int.tmod a0 6=1∨Int.tmod a0 6=2∨Int.tmod a0 6=3∨Int.tmod a0 6=4∨Int.tmod a0 6=5:=by rw [e6];omega
   have hk:t3=0∨t3=1∨t3=2:=by omega
   have F:=am hq;have G:=am hk;have HR:=am H;have B0:=am b0;clear H b0 c hq hk e6;go_enter Tryz.func86,Tryz.ntmps86;go_upto_region 3 with (first|(go_at_call 14;(with_reducible refine (impl_within.calls a0 0 40 true _ A1.out).mono ?_);rintro e w' ⟨rfl,⟨nd,rfl⟩⟩)|(go_at_call 14;(with_reducible refine (impl_within.calls a1 0 15 true _ A2.out).mono ?_);rintro e w' ⟨rfl,⟨nd,rfl⟩⟩))
   (try simp only [Act.put,List.setIfInBounds_toArray,List.set_cons_zero,List.set_cons_succ])
   generalize hw1:World.drewN w _=w1;have HB1:=am (show Below w.heap.size w w1 by rw [← hw1];exact pw_below_drewN HB.out _);clear hw1 HB;have hs:=run_storeCells_new (P:=Tryz.prog) w1 102 #[.int .i64 0,.int .i64 0,.int .i64 0,.int .i64 0,.int .i64 0,.int .i64 0,.int .i64 0,.int .i64 0,.int .i64 0,.int .i64 0,.int .i64 0,.int .i64 0,.int .i64 0,.int .i64 0,.int .i64 0,.int .i64 0,.int .i64 0,.int .i64 0] #[.int .i64 10,.int .i64 16,.int .i64 13,.int .i64 11,.int .i64 18,.int .i64 14,.int .i64 13,.int .i64 20,.int .i64 16,.int .i64 14,.int .i64 23,.int .i64 18,.int .i64 16,.int .i64 25,.int .i64 20,.int .i64 18,.int .i64 29,.int .i64 23] (by kernel_rfl) rfl (by kernel_rfl);go_upto_region 4 with (fail)
   clear hs;have HB:=am (below_alloc HB1.out (.cells #[.int .i64 10,.int .i64 16,.int .i64 13,.int .i64 11,.int .i64 18,.int .i64 14,.int .i64 13,.int .i64 20,.int .i64 16,.int .i64 14,.int .i64 23,.int .i64 18,.int .i64 16,.int .i64 25,.int .i64 20,.int .i64 18,.int .i64 29,.int .i64 23] 102));clear HB1;obtain ⟨hq⟩:=F;obtain ⟨hk⟩:=G;obtain rfl:=sj HR.out;clear HR H;obtain ⟨j,hj⟩:∃ j_:Int,wrap64 (Int.tdiv a0 6)=j_:=⟨_,rfl⟩
   have hjw:IntKind.i64.wrap (Int.tdiv a0 6)=j:=(i64_w _).trans hj;have hj0:0≤j:=by obtain ⟨b0⟩:=B0;rw [← hj,Int.tdiv_eq_ediv_of_nonneg b0.1];unfold wrap64;omega
   have hjd:decide (0≤j)=true:=decide_eq_true hj0;have HJ:=am hj;clear hj B0;replace hj0:=eq_true hj0;rcases hq with hq | hq | hq | hq | hq | hq <;> rcases hk with rfl | rfl | rfl <;> (
    go_quiet (first|(go_at_call 99;refine cD (impl_KindOf.calls k _ _ _ A3.out) ?_;intro nd;(try first | exact ⟨rfl,_,World.drewN_drewN _ _ _⟩ | exact ⟨rfl,_,Eq.trans (World.drewN_drewN _ _ _) (congrArg (World.drewN _) (Nat.add_assoc _ _ _))⟩)))
    go_wp2;go_ret;exact ⟨by rw [hq,HJ.out];exact congrArg (fun z=>Ending.returned (.int .i64 z)) (i64_w (_ * 2 ^ min j.toNat 64)).symm,pw_below_drewN HB.out _⟩)
def impl_SmallBack.f (k:Nat) (a0:Int) (a1:Int) (a2:Int):Option (Int):=(impl_within.f a0 (-5000) 5000).bind fun t442=>(if t442=true then ((impl_ScaleOf.f k a1 a2).bind fun t443=>(some (wrap64 (a0 * t443)))) else (some 0))
theorem impl_SmallBack.calls (k:Nat) (a0:Int) (a1:Int) (a2:Int) (r:Int) (w:World) (h:impl_SmallBack.f k a0 a1 a2=some r) :
  Calls Tryz.prog 61 #[.int .i64 a0,.int .i64 a1,.int .i64 a2] w fun e w'=>e=.returned (.int .i64 r)∧Below w.heap.size w w':=by
 have HB:=am (Below.refl w.heap.size w);have H:=h;clear h;unfold impl_SmallBack.f at H;replace H:=bnd H;obtain ⟨t442,A4,H⟩:=H;replace H:=ifb H;rcases H with ⟨rfl,H⟩ | ⟨rfl,H⟩
 ·replace H:=bnd H;obtain ⟨t443,A6,H⟩:=H;obtain rfl:=sj H;go_enter Tryz.func61,Tryz.ntmps61;go_wp2_with (first|((with_reducible refine gc 14 ?_);refine gD (some 8) Tryz.func14 _ (impl_within.calls _ _ _ _ _ A4.out) ?_;intro nd)|((with_reducible refine gc 86 ?_);refine gB (some 13) Tryz.func86 _ (impl_ScaleOf.calls k _ _ _ _ A6.out) ?_;intro w7 hb;replace HB:=bs HB hb));go_ret;exact ⟨re,bo HB⟩
 ·obtain rfl:=sj H;go_enter Tryz.func61,Tryz.ntmps61;go_wp2_with (first|((with_reducible refine gc 14 ?_);refine gD (some 8) Tryz.func14 _ (impl_within.calls _ _ _ _ _ A4.out) ?_;intro nd));go_ret;exact ⟨re,bo HB⟩
def impl_copyInts.f (l0:List Int):Option (List Int):=(some (([]:List Int):List Int)).bind fun y444=>(if y444.length + l0.length < 17592186044416 then (some (y444 ++ l0)) else (none))
theorem impl_copyInts.calls (A0:Option Addr) (c0:Nat) (l0:List Int) (r:List Int) (w:World) (hr0:Kd.C (Kd.int .i64) w A0 l0.length l0) (hc0:l0.length≤c0) (h:impl_copyInts.f l0=some r) :
  Calls Tryz.prog 100 #[.slice A0 l0.length c0] w fun e w'=>∃ v0_:Value,e=.returned (v0_)∧Kd.R (Kd.int .i64) 3 w' w.heap.size (fun _=>True) v0_ r∧Below w.heap.size w w':=by
 have HR0:=am hr0;have HC0:=am hc0;clear hr0 hc0;have HB:=am (Below.refl w.heap.size w);have H:=h;clear h;unfold impl_copyInts.f at H;replace H:=yl H;obtain ⟨y444,Ny444,H⟩:=H;by_cases c2:y444.length + l0.length < 17592186044416
 ·rw [if_pos c2] at H;have LMc2:=am c2;clear c2;obtain ⟨y447,hy447⟩:∃ y_:List Int,y_=(y444 ++ l0):=⟨_,rfl⟩
  replace H:(some y447)=some r:=by subst hy447;exact H
  have Ny447:=am hy447;clear hy447;obtain rfl:=sj H;go_enter Tryz.func100,Tryz.ntmps100;go_wp2_with (first|((with_reducible refine gd 3 ?_);refine Kd.R_lit (Kd.int .i64) _ 3 ?hg (N:=3) ?hd (xs:=([]:List Int)) (inner:=[]) (ok:=fun _=>True) (okp:=fun _=>True) ?hr ?hp (fun _ hk=>hk) trivial (Below.refl _ _) (Nat.le_refl _) (by simp) ?_;(case hd=>rfl);(case hg=>rfl);(case hr=>first|(go_simp;done)|(go_simp;rfl));(case hp=>exact (Reps.none _ _));intro v445 w3 ho4 hb hg_ hnew_;clear hg_ hnew_;(first | rw [← Ny444.out] at ho4|(simp only [Int.reduceToNat] at ho4;rw [← Ny444.out] at ho4));have HO446:=am (Kd.R_lower ho4 (below_size (bo HB)));replace HB:=bs HB hb;clear hb ho4)|((with_reducible refine gate_builtin (b:=.append) (xs:=#[.tmp 3,.tmp 4]) rfl ?_);at_builtin;refine Kd.R_append_rows (Kd.int .i64) (w0:=w) w.heap.size rfl (.tmp 3) (.tmp 4) 33 3 (.int .i64 0) 8 rfl Tryz.underlying33 info3 rfl (by decide) (by omega) v445 y444 l0 _ _ _ (fun _=>True) (fun _=>False) rfl rfl ?aO ?aR (fun _ _ h=>h) (fun _ h=>h.elim) ?aF ?aB ?aS ?aL ?_;(case aR=>repeat (first | exact (Kd.C_below HR0.out HB.out)|(with_reducible refine Kd.C_alloc ?_ _)|(with_reducible refine Kd.C_drewN ?_ _)|(with_reducible refine Kd.C_drew ?_)));(case aB=>exact (bo HB));(case aF=>exact (fun _ _=>trivial));(case aO=>exact (ro HO446.out));(case aS=>exact (below_size (bo HB)));(case aL=>have:=LMc2.out;omega);intro v448 w5 ho hb hg hat;rw [← Ny447.out] at ho;have HO449:=am (ho);replace HB:=am (hb);clear HO446;clear ho hb hg hat));go_ret;exact ⟨_,re,ro HO449.out,bo HB⟩
 ·rw [if_neg c2] at H;cases H
-- NOT PRINTED: function 87 (impl_turned)
end Go.Proofs.YtdfekcelcdkjlaaGreat.QFnConfined
