import Derived.Test.YtfpbdmldeikfbaaGreatDoorDcTab
import Derived.Test.YtfpbdmldeikfbaaGreatDoorDcAU
import Derived.Test.YtfpbdmldeikfbaaGreatDoorDcM
set_option linter.unusedSimpArgs false
set_option linter.unusedVariables false
namespace Go.Dc
open Go Go.Proofs
set_option maxRecDepth 100000
set_option maxHeartbeats 8000000
set_option linter.unusedVariables false
theorem signing_IsKey_ok {g:Gh} {fr:Hl} {w:World} {r:Bool} (n_:Int) (S:St g [] fr w) (hm:O7 n_=some r) :
  Calls Tryz.prog 19 [.i6 n_].toArray w (fun en w'=>∃ v,en=.returned v∧∃ (g':Gh),Le g g'∧St g' [] fr w'∧.bool r=v):=by
 unfold O7 at hm;refine An (fn:=Tryz.f19) Tryz.func19 Z Tryz.ntmps19 (lb Z) ?_;intro a F;replace F:Fr 9 a [(0,.i6 n_)]:=F;exact goC F S
instance:Con Tryz.prog 19 0 (type_of% @signing_IsKey_ok):=⟨@signing_IsKey_ok,tc19⟩
theorem Qc {g:Gh} {fr:Hl} {w:World} {r:Int} (s_:ByteArray) (c_:Int) (S:St g [] fr w) (hm:L5 s_ c_=some r) :
  Calls Tryz.prog 151 [.string s_,.int .u8 c_].toArray w (fun en w'=>∃ v,en=.returned v∧∃ (g':Gh),Le g g'∧St g' [] fr w'∧.i6 r=v):=by
 unfold L5 at hm;refine An (fn:=Tryz.f151) Tryz.func151 Z Tryz.ntmps151 (lb Z) ?_;intro a F;replace F:Fr 8 a [(0,.string s_),(1,.int .u8 c_)]:=F;exact goC F S
instance:Con Tryz.prog 151 0 (type_of% @Qc):=⟨@Qc,tc151⟩
theorem X8 {g:Gh} {fr:Hl} {w:World} {r:Int} (s_:ByteArray) (S:St g [] fr w) (m:T7 s_=some r) :
  Calls Tryz.prog 199 [.string s_,.string (⟨#[47]⟩:ByteArray)].toArray w (fun en w'=>∃ v,en=.returned v∧∃ (g':Gh),Le g g'∧St g' [] fr w'∧.i6 r=v):=by
 unfold T7 at m;refine An (fn:=Tryz.f199) Tryz.func199 Z Tryz.ntmps199 (lb Z) ?_;intro a F;refine sr (wa1 Z F Z Z fun a F=>nq (wm Z F Z Z<|Y (Uy Z tu9) S Z<|ma Z Z Z fun a F=>nn (Cy (El (sr (wm Z F Z Z<|Y (B3 Z Z (L6 _ _ _ _)) S Z<|mv Z Z Z<|Ge Z (Bj Z) S Z<|Ge Z (Bj Z) S Z<|Ge Z (Yp Z Z (Zo _ _ _)) S Z<|Y (Hy Z Z Z) S Z<|ma Z Z Z fun a F=>Av (Aw ?_)))))));obtain ⟨d1,m⟩ | ⟨d1,m⟩:=Dd m
 ·cases D7 m;exact Cl F Z d1 (sr (wa1 Z F Z Z fun a F=>nn (G8 (Nu (Ht (po F Z (rT Z) ⟨_,Z,g,(Le.refl _),S,Z⟩))))))
 ·obtain ⟨y1,k1,m⟩:=Ah m;obtain ⟨y2,k2,m⟩:=Ah m;refine Ck F rfl d1 (sr (wm rfl F rfl rfl<|Y (B3 rfl rfl (L6 _ _ _ _)) S rfl<|ma rfl rfl rfl fun a F=>nn (Cl F rfl (by first | rfl | decide) (sr (wm rfl F rfl rfl<|mv rfl rfl rfl<|Y (ev_sAt k1 tu9 rfl rfl) S rfl fun a F=>?_)))));refine wc F (Qc s_ y1 S k2) tc151 ?_;rintro _ a w ⟨g1,l1,S,rfl⟩ F;replace S:St g1 [] fr w:=S;cases D7 m;exact wa1 Z F Z Z fun a F=>nn (G8 (Nu (Ht (po F Z (rT Z) ⟨_,Z,g1,l1,S,Z⟩))))
instance:Con Tryz.prog 199 0 (type_of% @X8):=⟨@X8,tc199⟩
theorem strings_Index_ok {g:Gh} {fr:Hl} {w:World} {r:Int} (s_:ByteArray) (S:St g [] fr w) (hm:Vt s_=some r) :
  Calls Tryz.prog 178 [.string s_,.string (⟨#[47]⟩:ByteArray)].toArray w (fun en w'=>∃ v,en=.returned v∧∃ (g':Gh),Le g g'∧St g' [] fr w'∧.i6 r=v):=by
 unfold Vt at hm;refine An (fn:=Tryz.f178) Tryz.func178 Z Tryz.ntmps178 (lb Z) ?_;intro a F;replace F:Fr 8 a [(0,.string s_),(1,.string (⟨#[47]⟩:ByteArray))]:=F;exact goC F S
theorem Yu {g:Gh} {fr:Hl} {w:World} {r:Bool} (c_:Int) (S:St g [] fr w) (hm:M3 c_=some r) :
  Calls Tryz.prog 109 [.int .u8 c_].toArray w (fun en w'=>∃ v,en=.returned v∧∃ (g':Gh),Le g g'∧St g' [] fr w'∧.bool r=v):=by
 unfold M3 at hm;refine An (fn:=Tryz.f109) Tryz.func109 Z Tryz.ntmps109 (lb Z) ?_;intro a F;replace F:Fr 37 a [(0,.int .u8 c_)]:=F;exact goC F S
theorem W0 {g:Gh} {fr:Hl} {w:World} {r:Bool} (path:ByteArray) (S:St g [] fr w) (m:Bc path=some r) :
  Calls Tryz.prog 74 [.string path].toArray w (fun en w'=>∃ v,en=.returned v∧∃ (g':Gh),Le g g'∧St g' [] fr w'∧.bool r=v):=by
 unfold Bc at m;refine calls_enterM (fn:=Tryz.f74) Tryz.func74 Z Tryz.ntmps74 (lb Z) ?_;intro a F;refine sr (wA Z tz4 [.bool false] F S Z fun b1 a w F S=>nn (Cy (sr (wm Z F Z Z<|Y (Uy Z tu9) S Z<|Y (B3 Z Z (bo_gtr _ _ _ _)) S Z fun a F=>Av (Aw ?_)))));obtain ⟨d1,m⟩ | ⟨d1,m⟩:=Dd m
 ·obtain rfl:=D7 m;exact Cl F Z d1 (sr (ws Z F S Z [.bool false] ts4 (on Z) 0 Z #[.bool false] fun w S=>nn (rr (post_r0 _ F Z (H6 (res1 Z tu4 Z (Ur (cells:=[.bool false]) 0 Z 0 Z (lb Z) w S)) Mz) ⟨_,Z,g,(Le.refl _),S.t,Z⟩))))
 ·refine Ck F Z d1 (Dm (Aw (Cy (sr (wm Z F Z Z fun a F=>?_)))));replace F:=F.sub (e':=[(8,.string path),(2,bp b1 0)]) ⟨Z,Z,trivial⟩;refine Wv (wn Z) Z (xs:=[.tmp 8,.const (.string (⟨#[47]⟩:ByteArray))]) (vs:=[.string path,.string (⟨#[47]⟩:ByteArray)]) (cap:=[]) (e':=[(2,bp b1 0)]) ⟨Z,trivial⟩ F Z Z tc108 Z Z (An (fn:=Tryz.f108) Tryz.func108 Z Tryz.ntmps108 (lb Z) ?_);intro a F;replace F:Fr 8 a [(0,.string path),(1,.string (⟨#[47]⟩:ByteArray))]:=F;refine sr (wa1 Z F Z Z fun a F=>nq (wm Z F Z Z<|mv Z Z Z fun a F=>?_));replace F:=F.sub (e':=[(6,.string (⟨#[47]⟩:ByteArray)),(5,.string path)]) ⟨Z,Z,trivial⟩;refine Wv (wn Z) Z (xs:=[.tmp 5,.tmp 6,.const (.i6 0)]) (vs:=[.string path,.string (⟨#[47]⟩:ByteArray),.i6 0]) (cap:=[]) (e':=[]) trivial F Z Z tc149 Z Z (An (fn:=Tryz.f149) Tryz.func149 Z Tryz.ntmps149 (lb Z) ?_);intro a F;replace F:Fr 8 a [(0,.string path),(1,.string (⟨#[47]⟩:ByteArray)),(2,.i6 0)]:=F;refine sr (wb Z Z Z F S Z fun b2 a w F S=>wb Z Z Z F S Z fun b3 a w F S=>wb Z Z Z F S Z fun b4 a w F S=>wa1 Z F Z Z fun a F=>nq (wE (Aas (xs:=[.tmp 4,.tmp 3,.tmp 5]) (vs:=[bp b3 0,bp b2 0,bp b4 0]) Z) F S Z<|ma Z Z Z fun a F=>nn (G8 (po F Z (rT Z) ?_))));refine ⟨_,Z,?_⟩;intro a F;replace F:Fr 8 a [(7,.func (.func 176) #[] #[bp b3 0,bp b2 0,bp b4 0])]:=F;refine wa1 Z F Z Z fun a F=>nn (G8 (po F Z (rT Z) ?_));refine ⟨_,Z,?_⟩;intro a F;replace F:Fr 32 a [(9,.func (.func 176) #[] #[bp b3 0,bp b2 0,bp b4 0]),(2,bp b1 0)]:=F;refine nn (El ?_);refine wp_range (ps:=[10]) (cap:=[bp b3 0,bp b2 0,bp b4 0]) (e0:=[(2,bp b1 0)]) F ⟨Z,trivial⟩ S Z tc176 ?_;intro R1 l1 D1 w hR1 S;replace S:St g [[(l1,.loop (R1 .ready Option.none))],[(D1,.deferred (some []))],[bx b4 #[.i6 0] 3],[(b3,.cells #[.string (⟨#[47]⟩:ByteArray)] 9 (0,0))],[bx b2 #[.string path] 9],[bx b1 #[.bool false] 4]] fr w:=S;refine An (fn:=Tryz.f176) Tryz.func176 Z Tryz.ntmps176 (lb Z) ?_;intro a F;replace F:Fr 52 a [(0,.func (.yield l1) #[] #[]),(1,bp b3 0),(2,bp b2 0),(3,bp b4 0)]:=F;refine Cy (sr (wE (e1 tu9 (.string (⟨#[47]⟩:ByteArray)) 3 0) F S rfl<|Y (Uy rfl tu9) S rfl<|Y (B3 rfl rfl (L6 _ _ _ _)) S rfl fun a F=>nn (Ck F rfl (by first | rfl | decide) (Dm (Aw (Mf (fun a w=>∃ (x1:ByteArray) (g1:Gh),Fr 52 a [(0,.func (.yield l1) #[] #[]),(2,bp b2 0)]∧Le g g1∧St g1 [[(l1,.loop (R1 .ready Option.none))],[(D1,.deferred (some []))],[bx b2 #[.string x1] 9],[bx b1 #[.bool false] 4]] fr w∧Bc.j1 x1=some r) ?_ ?_))))))
  ·obtain ⟨r2,o2,m⟩:=Ah m;refine El ?_;have j2:=m;refine wj o2 (fun x6 a w=>∃ (g7:Gh),Fr 52 a [(0,.func (.yield l1) #[] #[]),(1,bp b3 0),(2,bp b2 0),(3,bp b4 0)]∧Le g g7∧St g7 [[(l1,.loop (R1 .ready Option.none))],[(D1,.deferred (some []))],[(b3,.cells #[.string (⟨#[47]⟩:ByteArray)] 9 (0,0))],[bx b2 #[.string x6] 9],[bx b4 #[.i6 0] 3],[bx b1 #[.bool false] 4]] fr w) ?_ ?_
   ·exact ⟨g,F.s,(Le.refl _),S.pm [0,1,3,4,2,5]⟩
   ·rintro x6 a w x7 ⟨g7,F,l8,S⟩ t4 f2;have m:Bc.l2 x6=some x7:=t4;clear t4;unfold Bc.l2 at m;obtain ⟨y3,k3,m⟩:=Ah m;refine El (sr (wE (e1 tu9 (.string x6) 3 0) F S Z<|Y (e1 tu9 (.string (⟨#[47]⟩:ByteArray)) 2 0) S Z fun a F=>?_));refine wc F (strings_Index_ok x6 S.z k3) tc178 ?_;rintro _ a w ⟨g8,l9,S,rfl⟩ F;replace S:=S.y;refine wa1 Z F Z Z fun a F=>nn (Cy (sr (wm Z F Z Z<|Y (B3 Z Z (M4 _ _ _ _)) S Z fun a F=>Av (Aw ?_))));obtain ⟨d8,m⟩ | ⟨d8,m⟩:=Dd m
    ·obtain rfl:=D7 m;refine Cl F Z d8 (Mp (Kg (inb_e Z (Kg (Tu (Aw ?_))))));obtain rfl:=f2 _ Z;exact ⟨x6,g8,F.s,(l8.trans l9),S.pm [0,1,3,5],j2⟩
    ·obtain ⟨z2,u2,m⟩:=Ah m;obtain ⟨y4,k4,m⟩:=Ah m;refine Ck F Z d8 (Dm (Aw (sr (wE (e1 tu9 (.string x6) 3 0) F S Z<|mv Z Z Z<|Y (e1 tu3 (.i6 0) 4 0) S Z<|Y (B3 Z Z (He u2)) S Z<|Y (ev_scut k4 tu9 Z (bnd0 _) (bndV Z)) S Z<|ma Z Z Z fun a F=>nn (Cy (sr (wm Z F Z Z<|mv Z Z Z fun a F=>wl_yield (wn Z) Z (xs:=[.tmp 40]) (vs:=[.string y4]) (e':=[(7,.i6 y3),(0,.func (.yield l1) #[] #[]),(1,bp b3 0),(2,bp b2 0),(3,bp b4 0)]) ⟨Z,Z,Z,Z,Z,trivial⟩ F S Z Z Z Z 0 Z hR1 Z Z fun a F=>?_)))))));replace F:Fr 32 a [(10,.string y4),(2,bp b1 0)]:=F;refine B1 (wa1 Z F Z Z fun a F=>nn (begin_round S 0 Z hR1 fun w S=>?_));replace S:St g8 [[(l1,.loop (R1 .busy Option.none))],[(D1,.deferred (some []))],[(b3,.cells #[.string (⟨#[47]⟩:ByteArray)] 9 (0,0))],[bx b2 #[.string x6] 9],[bx b4 #[.i6 0] 3],[bx b1 #[.bool false] 4]] fr w:=S;refine wp_cutR (fun a w=>∃ (g9:Gh),Fr 32 a []∧Le g8 g9∧St g9 [[(l1,.loop (R1 .busy Option.none))],[(D1,.deferred (some []))],[bx b1 #[.bool false] 4],[(b3,.cells #[.string (⟨#[47]⟩:ByteArray)] 9 (0,0))],[bx b2 #[.string x6] 9],[bx b4 #[.i6 0] 3]] fr w∧Bc.j5=some x7) ?_ ?_
     ·refine wp_cut1 (fun a w=>∃ (g10:Gh),Fr 32 a []∧Le g8 g10∧St g10 [[(l1,.loop (R1 .busy Option.none))],[(D1,.deferred (some []))],[bx b1 #[.bool false] 4],[(b3,.cells #[.string (⟨#[47]⟩:ByteArray)] 9 (0,0))],[bx b2 #[.string x6] 9],[bx b4 #[.i6 0] 3]] fr w∧Bc.j6 x6 y3=some x7) ?_ ?_
      ·obtain ⟨x8,t5,m⟩:=Ah m;refine El (Cy (sr (wm Z F Z Z<|Y (Yp Z Z (Zo _ _ _)) S Z<|mv Z Z Z fun a F=>Wb 3 (fun a w'=>w=w'∧Fr 32 a [(16,.bool x8),(3,.string y4),(2,bp b1 0)]) ?_ ?_)))
       ·clear m;obtain ⟨d11,m⟩ | ⟨d11,m⟩:=Dd t5
        ·obtain rfl:=D7 m;refine wk (Lq d11) F Z<|Wk (Lq d11) Z<|Y (Kn Z d11 Z) S Z fun a F=>?_;exact Av (Aw ⟨Z,F.s⟩)
        ·obtain rfl:=D7 m;refine gE d11 (Bj Z) F S Z<|Ge d11 (Yp Z Z (Zo _ _ _)) S Z<|Y (Hy Z d11 Z) S Z fun a F=>?_;exact Av (Aw ⟨Z,F.s⟩)
       clear F;rintro a w' ⟨rfl,F⟩;obtain ⟨x9,t6,m⟩:=Ah m;refine wm Z F Z Z fun a F=>Wb 3 (fun a w'=>w=w'∧Fr 32 a [(20,.bool x9),(3,.string y4),(2,bp b1 0)]) ?_ ?_
       ·clear m;obtain ⟨d12,m⟩ | ⟨d12,m⟩:=Dd t6
        ·obtain rfl:=D7 m;refine wk (Lq d12) F Z<|Wk (Lq d12) Z<|Y (Kn Z d12 Z) S Z fun a F=>?_;exact Av (Aw ⟨Z,F.s⟩)
        ·obtain rfl:=D7 m;refine gE d12 (Bj Z) F S Z<|Ge d12 (Yp Z Z (Zo _ _ _)) S Z<|Y (Hy Z d12 Z) S Z fun a F=>?_;exact Av (Aw ⟨Z,F.s⟩)
       clear F;rintro a w' ⟨rfl,F⟩;refine Av (Aw ?_);obtain ⟨d13,m⟩ | ⟨d13,m⟩:=Dd m
       ·exact Cl F Z d13 (sr (ws Z F S Z [.bool false] ts4 (on Z) 5 Z #[.bool false] fun w S=>nn (rr (Nu (Ht (rj_r ⟨g8,F.sub trivial,(Le.refl _),S.pm [0,1,5,2,3,4],m⟩))))))
       ·refine Ck F Z d13 (Dm (Aw (sr (wm Z F Z Z<|Y (Uy Z tu9) S Z<|mv Z Z Z fun a F=>nn (wp_cut1 (fun a w=>∃ (g11:Gh),Fr 32 a []∧Le g8 g11∧St g11 [[(l1,.loop (R1 .busy Option.none))],[(D1,.deferred (some []))],[bx b1 #[.bool false] 4],[(b3,.cells #[.string (⟨#[47]⟩:ByteArray)] 9 (0,0))],[bx b2 #[.string x6] 9],[bx b4 #[.i6 0] 3]] fr w∧Bc.j7 x6 y3=some x7) ?_ ?_)))))
        ·obtain ⟨r3,o3,m⟩:=Ah m;refine El ?_;have j3:=m;refine wj o3 (fun x10 a w=>∃ (g12:Gh),Fr 32 a [(23,.i6 x10),(22,.i6 (y4.size:Int)),(3,.string y4),(2,bp b1 0)]∧Le g8 g12∧St g12 [[(l1,.loop (R1 .busy Option.none))],[(D1,.deferred (some []))],[bx b1 #[.bool false] 4],[(b3,.cells #[.string (⟨#[47]⟩:ByteArray)] 9 (0,0))],[bx b2 #[.string x6] 9],[bx b4 #[.i6 0] 3]] fr w) ?_ ?_
         ·exact ⟨g8,F.s,(Le.refl _),S.pm [0,1,5,2,3,4]⟩
         ·rintro x10 a w x11 ⟨g12,F,l13,S⟩ t7 f3;have m:Bc.l3 y4 x10=some x11:=t7;clear t7;unfold Bc.l3 at m;refine sr (wE (B3 Z Z (M4 _ _ _ _)) F S Z fun a F=>nn (Cy ?_));obtain ⟨d14,m⟩ | ⟨d14,m⟩:=Dd m
          ·obtain ⟨y6,k6,m⟩:=Ah m;obtain ⟨y7,k7,m⟩:=Ah m;refine Cl F Z d14 (Dm (Aw (Cy (El (sr (wm Z F Z Z<|ma Z Z Z fun a F=>nq (wm Z F Z Z<|mv Z Z Z<|Y (ev_sAt k6 tu9 Z Z) S Z fun a F=>?_)))))));refine wc F (Yu y6 S.z k7) tc109 ?_;rintro _ a w ⟨g13,l14,S,rfl⟩ F;replace S:=S.y;refine wE (Vm Z) F S Z fun a F=>Av (Aw ?_);obtain ⟨d15,m⟩ | ⟨d15,m⟩:=Dd m
           ·obtain rfl:=D7 m;refine Cl F Z d15 (sr (ws Z F S Z [.bool false] ts4 (on Z) 2 Z #[.bool false] fun w S=>nn (G8 (Nu (Ht (Ht (Nu (Ht (Nu (Ht (rj_r ?_)))))))))));obtain rfl:=f3 _ Z;exact ⟨g13,F.sub trivial,(l13.trans l14),S,j3⟩
           ·obtain ⟨z4,u4,m⟩:=Ah m;obtain rfl:=D7 m;refine Ck F Z d15 (Dm (L7 (Aw (B1 (wE (B3 Z Z (He u4)) F S Z<|mv Z Z Z fun a F=>Av (Aw ?_))))));refine ⟨_,Z,?_⟩;exact ⟨g13,F.s,(l13.trans l14),S⟩
          ·obtain rfl:=D7 m;refine Ck F Z d14 (Mp (Kg (Kg (Tu (Aw ?_)))));obtain rfl:=f3 _ Z;exact ⟨g12,F.sub trivial,l13,S,j3⟩
        ·rintro a w ⟨g11,F,l12,S,m⟩;exact L7 (Aw ⟨g11,F.sub trivial,l12,S,m⟩)
      ·rintro a w ⟨g10,F,l11,S,m⟩;refine rj_n ?_;refine round_n S 0 Z hR1 ?_;intro w S;refine ⟨_,Z,?_⟩;intro a F;replace S:St g10 [[(l1,.loop (R1 .ready Option.none))],[(D1,.deferred (some []))],[bx b1 #[.bool false] 4],[(b3,.cells #[.string (⟨#[47]⟩:ByteArray)] 9 (0,0))],[bx b2 #[.string x6] 9],[bx b4 #[.i6 0] 3]] fr w:=S;replace F:Fr 52 a [(41,.bool true),(7,.i6 y3),(0,.func (.yield l1) #[] #[]),(1,bp b3 0),(2,bp b2 0),(3,bp b4 0)]:=F;obtain ⟨z3,u3,m⟩:=Ah m;obtain ⟨y5,k5,m⟩:=Ah m;obtain rfl:=D7 m;refine wE (Vm rfl) F S rfl fun a F=>nn (Ck F rfl (by first | rfl | decide) (Dm (Aw (B1 (wE (e1 tu9 (.string x6) 4 0) F S rfl<|mv rfl rfl rfl<|Y (e1 tu9 (.string (⟨#[47]⟩:ByteArray)) 3 0) S rfl<|Y (Uy rfl tu9) S rfl<|Y (B3 rfl rfl (He u3)) S rfl<|Y (ev_scut k5 tu9 rfl (bndV rfl) (bnd0 _)) S rfl fun a F=>ws rfl F S rfl [.string y5] ts9 (on rfl) 4 rfl #[.string y5] fun w S=>Av (L7 (Aw ?_)))))));refine ⟨_,Z,?_⟩;exact ⟨g10,F.s,((l8.trans l9).trans l11),S.pm [0,1,3,4,5,2]⟩
     ·rintro a w ⟨g9,F,l10,S,m⟩;refine round_r S 0 Z hR1 ?_;intro w S;refine ⟨_,Z,?_⟩;intro a F;replace S:St g9 [[(l1,.loop (R1 .done (some .ret)))],[(D1,.deferred (some []))],[bx b1 #[.bool false] 4],[(b3,.cells #[.string (⟨#[47]⟩:ByteArray)] 9 (0,0))],[bx b2 #[.string x6] 9],[bx b4 #[.i6 0] 3]] fr w:=S;replace F:Fr 52 a [(41,.bool false),(7,.i6 y3),(0,.func (.yield l1) #[] #[]),(1,bp b3 0),(2,bp b2 0),(3,bp b4 0)]:=F;obtain rfl:=D7 m;refine wE (Vm rfl) F S rfl fun a F=>nn (Cl F rfl (by first | rfl | decide) (rr (Nu (Ht (Nu (Ht ?_))))));obtain rfl:=f2 _ Z;have m:(some false:Option Bool)=some _:=j2;refine po F Z Mz ?_;refine ⟨_,Z,?_⟩;refine rp_r S 0 Z hR1 ?_;intro w S a F;replace S:St g9 [[(D1,.deferred (some []))],[bx b1 #[.bool false] 4],[(b3,.cells #[.string (⟨#[47]⟩:ByteArray)] 9 (0,0))],[bx b2 #[.string x6] 9],[bx b4 #[.i6 0] 3]] fr w:=S;replace F:Fr ⟨32,[mkD D1]⟩ a [(2,bp b1 0)]:=F;obtain rfl:=D7 m;refine Nu (Ht ?_);refine post_rM (fn:=Tryz.f74) (rs:=[.cell 2 4]) [.bool false] F S 0 Z Z (fun w S=>(H6 (res1 Z tu4 Z (Ur (cells:=[.bool false]) 1 Z 0 Z (lb Z) w S)) Mz)) ?_;intro w S;replace S:St g9 [[bx b1 #[.bool false] 4],[(b3,.cells #[.string (⟨#[47]⟩:ByteArray)] 9 (0,0))],[bx b2 #[.string x6] 9],[bx b4 #[.i6 0] 3]] fr w:=S;exact ⟨_,Z,g9,((l8.trans l9).trans l10),S.t,Z⟩
  ·rintro a w ⟨x1,g1,F,l2,S,m⟩;refine B1 (wm Z F Z Z<|Y (e1 tu9 (.string x1) 2 0) S Z fun a F=>wl_yield (wn Z) Z (xs:=[.tmp 50]) (vs:=[.string x1]) (e':=[]) trivial F S Z Z Z Z 0 Z hR1 Z Z fun a F=>?_);replace F:Fr 32 a [(10,.string x1),(2,bp b1 0)]:=F;refine B1 (wa1 Z F Z Z fun a F=>nn (begin_round S 0 Z hR1 fun w S=>?_));replace S:St g1 [[(l1,.loop (R1 .busy Option.none))],[(D1,.deferred (some []))],[bx b2 #[.string x1] 9],[bx b1 #[.bool false] 4]] fr w:=S;refine wp_cutR (fun a w=>∃ (g2:Gh),Fr 32 a []∧Le g1 g2∧St g2 [[(l1,.loop (R1 .busy Option.none))],[(D1,.deferred (some []))],[bx b1 #[.bool false] 4]] fr w∧Bc.j2=some r) ?_ ?_
   ·refine wp_cut1 (fun a w=>∃ (g3:Gh),Fr 32 a []∧Le g1 g3∧St g3 [[(l1,.loop (R1 .busy Option.none))],[(D1,.deferred (some []))],[bx b1 #[.bool false] 4]] fr w∧Bc.j3=some r) ?_ ?_
    ·obtain ⟨x2,t1,m⟩:=Ah m;refine El (Cy (sr (wm Z F Z Z<|Y (Yp Z Z (Zo _ _ _)) S Z<|mv Z Z Z fun a F=>Wb 3 (fun a w'=>w=w'∧Fr 32 a [(16,.bool x2),(3,.string x1),(2,bp b1 0)]) ?_ ?_)))
     ·clear m;obtain ⟨d3,m⟩ | ⟨d3,m⟩:=Dd t1
      ·obtain rfl:=D7 m;refine wk (Lq d3) F Z<|Wk (Lq d3) Z<|Y (Kn Z d3 Z) S Z fun a F=>?_;exact Av (Aw ⟨Z,F.s⟩)
      ·obtain rfl:=D7 m;refine gE d3 (Bj Z) F S Z<|Ge d3 (Yp Z Z (Zo _ _ _)) S Z<|Y (Hy Z d3 Z) S Z fun a F=>?_;exact Av (Aw ⟨Z,F.s⟩)
     clear F;rintro a w' ⟨rfl,F⟩;obtain ⟨x3,t2,m⟩:=Ah m;refine wm Z F Z Z fun a F=>Wb 3 (fun a w'=>w=w'∧Fr 32 a [(20,.bool x3),(3,.string x1),(2,bp b1 0)]) ?_ ?_
     ·clear m;obtain ⟨d4,m⟩ | ⟨d4,m⟩:=Dd t2
      ·obtain rfl:=D7 m;refine wk (Lq d4) F Z<|Wk (Lq d4) Z<|Y (Kn Z d4 Z) S Z fun a F=>?_;exact Av (Aw ⟨Z,F.s⟩)
      ·obtain rfl:=D7 m;refine gE d4 (Bj Z) F S Z<|Ge d4 (Yp Z Z (Zo _ _ _)) S Z<|Y (Hy Z d4 Z) S Z fun a F=>?_;exact Av (Aw ⟨Z,F.s⟩)
     clear F;rintro a w' ⟨rfl,F⟩;refine Av (Aw ?_);obtain ⟨d5,m⟩ | ⟨d5,m⟩:=Dd m
     ·exact Cl F Z d5 (sr (ws Z F S Z [.bool false] ts4 (on Z) 3 Z #[.bool false] fun w S=>nn (rr (Nu (Ht (rj_r ⟨g1,F.sub trivial,(Le.refl _),S.pm [0,1,3],m⟩))))))
     ·refine Ck F Z d5 (Dm (Aw (sr (wm Z F Z Z<|Y (Uy Z tu9) S Z<|mv Z Z Z fun a F=>nn (wp_cut1 (fun a w=>∃ (g4:Gh),Fr 32 a []∧Le g1 g4∧St g4 [[(l1,.loop (R1 .busy Option.none))],[(D1,.deferred (some []))],[bx b1 #[.bool false] 4]] fr w∧Bc.j4=some r) ?_ ?_)))))
      ·obtain ⟨r1,o1,m⟩:=Ah m;refine El ?_;have j1:=m;refine wj o1 (fun x4 a w=>∃ (g5:Gh),Fr 32 a [(23,.i6 x4),(22,.i6 (x1.size:Int)),(3,.string x1),(2,bp b1 0)]∧Le g1 g5∧St g5 [[(l1,.loop (R1 .busy Option.none))],[(D1,.deferred (some []))],[bx b1 #[.bool false] 4]] fr w) ?_ ?_
       ·exact ⟨g1,F.s,(Le.refl _),S.pm [0,1,3]⟩
       ·rintro x4 a w x5 ⟨g5,F,l6,S⟩ t3 f1;have m:Bc.l1 x1 x4=some x5:=t3;clear t3;unfold Bc.l1 at m;refine sr (wE (B3 Z Z (M4 _ _ _ _)) F S Z fun a F=>nn (Cy ?_));obtain ⟨d6,m⟩ | ⟨d6,m⟩:=Dd m
        ·obtain ⟨y1,k1,m⟩:=Ah m;obtain ⟨y2,k2,m⟩:=Ah m;refine Cl F Z d6 (Dm (Aw (Cy (El (sr (wm Z F Z Z<|ma Z Z Z fun a F=>nq (wm Z F Z Z<|mv Z Z Z<|Y (ev_sAt k1 tu9 Z Z) S Z fun a F=>?_)))))));refine wc F (Yu y1 S.z k2) tc109 ?_;rintro _ a w ⟨g6,l7,S,rfl⟩ F;replace S:=S.y;refine wE (Vm Z) F S Z fun a F=>Av (Aw ?_);obtain ⟨d7,m⟩ | ⟨d7,m⟩:=Dd m
         ·obtain rfl:=D7 m;refine Cl F Z d7 (sr (ws Z F S Z [.bool false] ts4 (on Z) 2 Z #[.bool false] fun w S=>nn (G8 (Nu (Ht (Ht (Nu (Ht (Nu (Ht (rj_r ?_)))))))))));obtain rfl:=f1 _ Z;exact ⟨g6,F.sub trivial,(l6.trans l7),S,j1⟩
         ·obtain ⟨z1,u1,m⟩:=Ah m;obtain rfl:=D7 m;refine Ck F Z d7 (Dm (L7 (Aw (B1 (wE (B3 Z Z (He u1)) F S Z<|mv Z Z Z fun a F=>Av (Aw ?_))))));refine ⟨_,Z,?_⟩;exact ⟨g6,F.s,(l6.trans l7),S⟩
        ·obtain rfl:=D7 m;refine Ck F Z d6 (Mp (Kg (Kg (Tu (Aw ?_)))));obtain rfl:=f1 _ Z;exact ⟨g5,F.sub trivial,l6,S,j1⟩
      ·rintro a w ⟨g4,F,l5,S,m⟩;exact L7 (Aw ⟨g4,F.sub trivial,l5,S,m⟩)
    ·rintro a w ⟨g3,F,l4,S,m⟩;refine rj_n ?_;refine round_n S 0 Z hR1 ?_;intro w S;refine ⟨_,Z,?_⟩;intro a F;replace S:St g3 [[(l1,.loop (R1 .ready Option.none))],[(D1,.deferred (some []))],[bx b1 #[.bool false] 4]] fr w:=S;replace F:Fr 52 a [(51,.bool true)]:=F;refine Av (post_n _ F Z Mz ?_);refine ⟨_,Z,?_⟩;refine rp_n S 0 Z hR1 ?_;intro w S a F;replace S:St g3 [[(D1,.deferred (some []))],[bx b1 #[.bool false] 4]] fr w:=S;replace F:Fr ⟨32,[mkD D1]⟩ a [(2,bp b1 0)]:=F;obtain rfl:=D7 m;refine L7 (Aw (sr (ws Z F S Z [.bool true] ts4 (on Z) 1 Z #[.bool true] fun w S=>nn (G8 ?_))));refine post_rM (fn:=Tryz.f74) (rs:=[.cell 2 4]) [.bool true] F S 0 Z Z (fun w S=>(H6 (res1 Z tu4 Z (Ur (cells:=[.bool true]) 1 Z 0 Z (lb Z) w S)) Mz)) ?_;intro w S;replace S:St g3 [[bx b1 #[.bool true] 4]] fr w:=S;exact ⟨_,Z,g3,(l2.trans l4),S.t,Z⟩
   ·rintro a w ⟨g2,F,l3,S,m⟩;refine round_r S 0 Z hR1 ?_;intro w S;refine ⟨_,Z,?_⟩;intro a F;replace S:St g2 [[(l1,.loop (R1 .done (some .ret)))],[(D1,.deferred (some []))],[bx b1 #[.bool false] 4]] fr w:=S;replace F:Fr 52 a [(51,.bool false)]:=F;refine Av (post_n _ F Z Mz ?_);refine ⟨_,Z,?_⟩;refine rp_r S 0 Z hR1 ?_;intro w S a F;replace S:St g2 [[(D1,.deferred (some []))],[bx b1 #[.bool false] 4]] fr w:=S;replace F:Fr ⟨32,[mkD D1]⟩ a [(2,bp b1 0)]:=F;obtain rfl:=D7 m;refine Nu (Ht ?_);refine post_rM (fn:=Tryz.f74) (rs:=[.cell 2 4]) [.bool false] F S 0 Z Z (fun w S=>(H6 (res1 Z tu4 Z (Ur (cells:=[.bool false]) 1 Z 0 Z (lb Z) w S)) Mz)) ?_;intro w S;replace S:St g2 [[bx b1 #[.bool false] 4]] fr w:=S;exact ⟨_,Z,g2,(l2.trans l3),S.t,Z⟩
instance:Con Tryz.prog 74 0 (type_of% @W0):=⟨@W0,tc74⟩
theorem Vs {g:Gh} {fr:Hl} {w:World} {r:Bool} (s_:ByteArray) (prefix_:ByteArray) (S:St g [] fr w) (hm:Ob s_ prefix_=some r) :
  Calls Tryz.prog 150 [.string s_,.string prefix_].toArray w (fun en w'=>∃ v,en=.returned v∧∃ (g':Gh),Le g g'∧St g' [] fr w'∧.bool r=v):=by
 unfold Ob at hm;refine An (fn:=Tryz.f150) Tryz.func150 Z Tryz.ntmps150 (lb Z) ?_;intro a F;replace F:Fr 18 a [(0,.string s_),(1,.string prefix_)]:=F;exact goC F S
instance:Con Tryz.prog 150 0 (type_of% @Vs):=⟨@Vs,tc150⟩
theorem Yb {g:Gh} {fr:Hl} {w:World} {r:Bool} (s_:ByteArray) (prefix_:ByteArray) (S:St g [] fr w) (hm:Nq s_ prefix_=some r) :
  Calls Tryz.prog 110 [.string s_,.string prefix_].toArray w (fun en w'=>∃ v,en=.returned v∧∃ (g':Gh),Le g g'∧St g' [] fr w'∧.bool r=v):=by
 unfold Nq at hm;refine An (fn:=Tryz.f110) Tryz.func110 Z Tryz.ntmps110 (lb Z) ?_;intro a F;replace F:Fr 8 a [(0,.string s_),(1,.string prefix_)]:=F;exact goC F S
instance:Con Tryz.prog 110 0 (type_of% @Yb):=⟨@Yb,tc110⟩
theorem Ud {g:Gh} {fr:Hl} {w:World} {r:Bool} (a_:ByteArray) (b_:ByteArray) (S:St g [] fr w) (hm:L1 a_ b_=some r) :
  Calls Tryz.prog 75 [.string a_,.string b_].toArray w (fun en w'=>∃ v,en=.returned v∧∃ (g':Gh),Le g g'∧St g' [] fr w'∧.bool r=v):=by
 unfold L1 at hm;refine An (fn:=Tryz.f75) Tryz.func75 Z Tryz.ntmps75 (lb Z) ?_;intro a F;replace F:Fr 20 a [(0,.string a_),(1,.string b_)]:=F;exact goC F S
instance:Con Tryz.prog 75 0 (type_of% @Ud):=⟨@Ud,tc75⟩
theorem Yi {g:Gh} {fr:Hl} {w:World} {r:Int} (s_:ByteArray) (c_:Int) (S:St g [] fr w) (hm:Ov s_ c_=some r) :
  Calls Tryz.prog 111 [.string s_,.int .u8 c_].toArray w (fun en w'=>∃ v,en=.returned v∧∃ (g':Gh),Le g g'∧St g' [] fr w'∧.i6 r=v):=by
 unfold Ov at hm;refine An (fn:=Tryz.f111) Tryz.func111 Z Tryz.ntmps111 (lb Z) ?_;intro a F;replace F:Fr 8 a [(0,.string s_),(1,.int .u8 c_)]:=F;exact goC F S
instance:Con Tryz.prog 111 0 (type_of% @Yi):=⟨@Yi,tc111⟩
theorem Aan {g:Gh} {fr:Hl} {w:World} {r:Fault} (lines:Ab) (vlines1:Value) (hlines1:RepSl g lines vlines1) (S:St g [] fr w) (hm:Gm lines=some r) :
  Calls Tryz.prog 76 [vlines1].toArray w (fun en w'=>∃ v,en=.returned v∧∃ (g':Gh),Le g g'∧St g' [] fr w'∧.agg #[.i6 r.Code,.i6 r.Index]=v):=by
 unfold Gm at hm;refine An (fn:=Tryz.f76) Tryz.func76 Z Tryz.ntmps76 (lb Z) ?_;intro a F;replace F:Fr 28 a [(0,vlines1)]:=F
 haveI:∀ (lines:Ab),LH (fun s=>Gm.l1 lines s) [10,9,2] (fun g2 s e c=>e=[(11,.i6 s)]∧c=[]∧True):=fun _=>{}
 exact goC F S
instance:Con Tryz.prog 76 0 (type_of% @Aan):=⟨@Aan,tc76⟩
theorem textpatch_End_ok {g:Gh} {fr:Hl} {w:World} {r:Int} (h_:Hunk) (vh_1:Value) (hh_1:RepSl g h_.Old vh_1) (vh_2:Value) (hh_2:RepSl g h_.New vh_2) (S:St g [] fr w) (hm:M7 h_=some r) :
  Calls Tryz.prog 113 [.agg #[.i6 h_.At,vh_1,vh_2]].toArray w (fun en w'=>∃ v,en=.returned v∧∃ (g':Gh),Le g g'∧St g' [] fr w'∧.i6 r=v):=by
 unfold M7 at hm;refine An (fn:=Tryz.f113) Tryz.func113 Z Tryz.ntmps113 (lb Z) ?_;intro a F;replace F:Fr 9 a [(0,.agg #[.i6 h_.At,vh_1,vh_2])]:=F;exact goC F S
instance:Con Tryz.prog 113 0 (type_of% (fun {g} {fr} {w} {r} h1 h2 h3 vh_1 hh_1 vh_2 hh_2=>@textpatch_End_ok g fr w r ⟨h1,h2,h3⟩ vh_1 hh_1 vh_2 hh_2)):=⟨(fun {g} {fr} {w} {r} h1 h2 h3 vh_1 hh_1 vh_2 hh_2=>@textpatch_End_ok g fr w r ⟨h1,h2,h3⟩ vh_1 hh_1 vh_2 hh_2),tc113⟩
theorem Aa6 {g:Gh} {fr:Hl} {w:World} {r:Int} (h_:Hunk) (vh_1:Value) (hh_1:RepSl g h_.Old vh_1) (vh_2:Value) (hh_2:RepSl g h_.New vh_2) (end_:Int) (S:St g [] fr w) (hm:Ho h_ end_=some r) :
  Calls Tryz.prog 112 [.agg #[.i6 h_.At,vh_1,vh_2],.i6 end_].toArray w (fun en w'=>∃ v,en=.returned v∧∃ (g':Gh),Le g g'∧St g' [] fr w'∧.i6 r=v):=by
 unfold Ho at hm;refine An (fn:=Tryz.f112) Tryz.func112 Z Tryz.ntmps112 (lb Z) ?_;intro a F;replace F:Fr 49 a [(0,.agg #[.i6 h_.At,vh_1,vh_2]),(1,.i6 end_)]:=F
 haveI:∀ (h_:Hunk),LH (fun s=>Ho.l1 h_ s) [20,2,1] (fun g3 s e c=>e=[(21,.i6 s)]∧c=[]∧True):=fun _=>{}
 exact goC F S
instance:Con Tryz.prog 112 0 (type_of% (fun {g} {fr} {w} {r} h1 h2 h3 vh_1 hh_1 vh_2 hh_2 end_=>@Aa6 g fr w r ⟨h1,h2,h3⟩ vh_1 hh_1 vh_2 hh_2 end_)):=⟨(fun {g} {fr} {w} {r} h1 h2 h3 vh_1 hh_1 vh_2 hh_2 end_=>@Aa6 g fr w r ⟨h1,h2,h3⟩ vh_1 hh_1 vh_2 hh_2 end_),tc112⟩
theorem Xj {g:Gh} {fr:Hl} {w:World} {r:Fault} (p_:Patch) (vp_1:Value) (hp_1:RepSl g p_.Hunks vp_1) (S:St g [] fr w) (hm:Gi p_=some r) :
  Calls Tryz.prog 77 [.agg #[vp_1]].toArray w (fun en w'=>∃ v,en=.returned v∧∃ (g':Gh),Le g g'∧St g' [] fr w'∧.agg #[.i6 r.Code,.i6 r.Index]=v):=by
 unfold Gi at hm;refine An (fn:=Tryz.f77) Tryz.func77 Z Tryz.ntmps77 (lb Z) ?_;intro a F;replace F:Fr 32 a [(0,.agg #[vp_1])]:=F
 haveI:∀ (p_:Patch),LH (fun s=>Gi.l1 p_ s.1 s.2) [14,13,2] (fun g2 s e c=>e=[(15,.i6 s.1),(3,.i6 s.2)]∧c=[]∧True):=fun _=>{}
 exact goC F S
instance:Con Tryz.prog 77 0 (type_of% @Xj):=⟨@Xj,tc77⟩
end Go.Dc
