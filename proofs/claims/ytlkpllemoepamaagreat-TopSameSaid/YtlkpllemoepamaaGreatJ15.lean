/- Texts put together. No condition beyond those that each theorem says. -/
import Derived.Test.YtlkpllemoepamaaGreatJ0
import Derived.Test.YtlkpllemoepamaaGreatLibG
import Derived.Test.YtlkpllemoepamaaGreatLibE
import Derived.Test.YtlkpllemoepamaaGreatJ14
import Derived.Test.YtlkpllemoepamaaGreatJ10
namespace Go.Proofs.YtlkpllemoepamaaGreat
open Go Go.Gm Tryz
set_option linter.unusedVariables false
set_option linter.unusedSimpArgs false
set_option maxHeartbeats 4000000
set_option maxRecDepth 8000
section
variable {P:Program} {t t2 e ty:TypeId} {pos:String} {af:Array Edge} {g:Option (Nat×Bool)} {x y:Operand} {ps qs:List (Nat×SF)} {α:Type} {R:α→List PV} {l s:List α} {sz k d':Nat} {v:Value}
theorem ZfL (n:Nat) (hu:P.underlying t=some (.slice e)) (hs:(P.info? e).map (·.size)=some sz) (hR:∀ x,(R x).length=sz) (hx:Opd x ps (.pv (.is (Zjc sz k v)))) (hs0:s≠[]) (hk:k+s.length≤l.length)
  (hy:∀ (act:Act) (w:World) (F:Fp),Hps qs (Act.tau act) w (U F)→(RS.ob (.val v) (ZA e sz R l)).holds (Act.tau act) w (F n) (U F) → ∃ a sLen sCap svs,act.eval y = .slice (some a) sLen sCap∧min sLen (l.length - k)=s.length∧(∀ j u,svs[j]? = some u→w.cell? (a.add j)=some u)∧PVs (s.flatMap R) svs w (U F)) :
  OpC P ⟨some d',.call { callee:=.builtin .copy,args:=#[x,y],argTypes:=#[t,t2] },ty,pos,af,g⟩ ⟨ps++qs,[(n,.ob (.val v) (ZA e sz R l))],.pv (.int .i64 s.length),[(n,.ob (.val v) (ZA e sz R (l.take k++s++l.drop (k+s.length))))]⟩:=fun act w F K Q hw hp hr ht=>by
 obtain ⟨xs,r1,r2,r3⟩:=id (hr (n,.ob (.val v) (ZA e sz R l)) (by simp))
 have hy':=hy act w F hp.right (hr (n,.ob (.val v) (ZA e sz R l)) (by simp))
 simp only [Anc.v] at r1 r3
 have hxl:=r1.1
 have hsl0:0<s.length:=Yax.2 hs0
 rcases r1.2 with ⟨_,hn0⟩ | ⟨b,cap,cur,ev,_,hg,hnc,hcm,hcs,htake⟩
 ·omega
 ·have ex:act.eval x = .slice (some ⟨b,0+k*sz,none⟩) (l.length - k) (cap - k):=by rw [(hx act w (U F) hp.left).1,ev];rfl
  obtain ⟨sa,sl,sc,svs,es,hmin,hcells,hpv⟩:=hy'
  have hcl:svs.length=s.length*sz:=by rw [← hpv.len,Zig hR]
  have hcur:cur.toList.length=cur.size:=by simp
  have hfit:k*sz+s.length*sz≤l.length*sz:=by rw [← Yba];exact YL _ hk
  have hfit2:l.length*sz≤cur.size:=by rw [hcs];exact YL _ hnc
  have hf:∀ z,F n z ↔ z=b:=fun z=>by rw [r3 z,ev];simp [Value.ownBlock,Yaj]
  have hc:=Zdx (P:=P) (w:=w) (dT:=t) (sT:=t2) (ty:=ty) (g:=b) (o:=0+k*sz) (dLen:=l.length - k) (dCap:=cap - k) (n:=s.length) (a:=sa) (sLen:=sl) (sCap:=sc) hu hs hg hmin hcl hcells (by rw [hcl];omega) hpv.one
  rw [Y2] at hc ex
  have hrun:(execOp act.eval ⟨some d',.call { callee:=.builtin .copy,args:=#[x,y],argTypes:=#[t,t2] },ty,pos,af,g⟩).run P w = .ok (.value (goInt s.length)) (w.setRow b (cur.toList.take (k*sz)++svs++cur.toList.drop (k*sz+svs.length)).toArray):=by
   simp only [execOp,resolve,invoke,builtin,ex,es]
   simp [hc,resolve,invoke,builtin,ex,es]
  obtain ⟨g1,g2⟩:=Za3 hw hg hf (cur.toList.take (k*sz)++svs++cur.toList.drop (k*sz+svs.length)).toArray
  simp only [Oper.wp,hrun,Oper.upon]
  refine ht _ _ F g1 g2 ⟨rfl,by unfold maxLen at hcm;show IntKind.min .i64≤_∧_≤IntKind.max .i64;simp [IntKind.min,IntKind.max,IntKind.signed,IntKind.bits];omega⟩ ?_
  intro z' hz'
  simp only [Yk] at hz'
  subst hz'
  have hll:(l.take k++s++l.drop (k+s.length)).length=l.length:=by simp;omega
  have htk:=ZeQ (cur:=cur.toList) (us:=svs) (k:=k*sz) (sz:=s.length*sz) (N:=l.length*sz) hfit hcl (by rw [hcur];exact hfit2)
  rw [htake] at htk
  have hown:=Zhj (n:=l.length) (sz:=sz) (us:=cur.toList.take (k*sz)++svs++cur.toList.drop (k*sz+svs.length)) hg (by simp only [Yd,Yj,YH,hcur,hcl];omega) hnc hcm
  rw [htk] at hown
  refine ⟨xs.take (k*sz)++svs++xs.drop (k*sz+s.length*sz),by rw [hll];simp only [Anc.v];rw [ev];exact hown,?_,r3⟩
  rw [YR,YR,Zcr hR,Zf0 hR,Yba]
  have hp1:=PVs.mono g2.ev r2
  exact ((hp1.take _).append (PVs.mono g2.ev hpv)).append (hp1.drop _)
theorem Zj5 (n:Nat) (hu:P.underlying t=some (.slice e)) (hs:(P.info? e).map (·.size)=some sz) (hR:∀ x,(R x).length=sz) (hx:Opd x ps (.pv (.is v))) (hy:Opd y qs (.pv (.sl R s))) (hs0:s≠[]) (hk:s.length≤l.length) :
  OpC P ⟨some d',.call { callee:=.builtin .copy,args:=#[x,y],argTypes:=#[t,t2] },ty,pos,af,g⟩ ⟨ps++qs,[(n,.ob (.val v) (ZA e sz R l))],.pv (.int .i64 s.length),[(n,.ob (.val v) (ZA e sz R (s++l.drop s.length)))]⟩:=fun act w F K Q hw hp hr ht=>by
 have hv:Zjc sz 0 v=v:=by
  obtain ⟨xs,r1,_,_⟩:=hr (n,.ob (.val v) (ZA e sz R l)) (by simp)
  have hsl0:0<s.length:=Yax.2 hs0
  rcases r1.2 with ⟨_,hn0⟩ | ⟨b,cap,cur,ev,_⟩
  ·omega
  ·simp only [Anc.v] at ev
   rw [ev];simp [Zjc]
 have h:=ZfL (P:=P) (t:=t) (t2:=t2) (ty:=ty) (pos:=pos) (af:=af) (g:=g) (x:=x) (y:=y) (ps:=ps) (qs:=qs) (R:=R) (s:=s) (l:=l) (v:=v) (k:=0) (d':=d') n hu hs hR (by rw [hv];exact hx) hs0 ow (fun act w F hp _=>by
  obtain ⟨sa,sc,es,hsc,hscm,hsv⟩:=hy act w (U F) hp
  obtain ⟨sb,soff,svs,rfl,hny,hsb,hcells,hpv⟩:=hsv.resolve_left hs0
  exact ⟨_,_,_,svs,es,by omega,Znw hcells,hpv⟩)
 rw [List.take_zero,Yad,Y2] at h
 exact h act w F K Q hw hp hr ht
theorem ZjB {kx ky:Nat} (n:Nat) (hu:P.underlying t=some (.slice e)) (hs:(P.info? e).map (·.size)=some sz) (hR:∀ x,(R x).length=sz) (hx:Opd x ps (.pv (.is (Zjc sz kx v)))) (hy:Opd y qs (.pv (.is (ZrT ky v)))) (hkx:kx=k) (hky:ky=k) (h0:0<k) (hk:k<l.length) :
  OpC P ⟨some d',.call { callee:=.builtin .copy,args:=#[x,y],argTypes:=#[t,t2] },ty,pos,af,g⟩ ⟨ps++qs,[(n,.ob (.val v) (ZA e sz R l))],.pv (.int .i64 (l.take (min k (l.length - k))).length),[(n,.ob (.val v) (ZA e sz R (l.take k++l.take (min k (l.length - k))++l.drop (k+(l.take (min k (l.length - k))).length))))]⟩:=by
 subst hkx;subst hky
 have hlen:(l.take (min ky (l.length - ky))).length=min ky (l.length - ky):=by rw [Yj];omega
 refine ZfL n hu hs hR hx (fun e=>by rw [← List.length_eq_zero_iff,hlen] at e;omega) (by rw [hlen];omega) fun act w F hp hr=>?_
 obtain ⟨xs,r1,r2,r3⟩:=hr
 simp only [Anc.v] at r1 r3
 have hxl:=r1.1
 have hsh:=ZL r1
 obtain ⟨ad,cap,ev,_,_,hq⟩:=hsh
 obtain ⟨b,rfl,_,hcells⟩:=hq.resolve_left ow
 have hle:min ky (l.length - ky)*sz≤l.length*sz:=YL _ ow
 refine ⟨⟨b,0,none⟩,ky,cap,xs.take (min ky (l.length - ky)*sz),by rw [(hy act w (U F) hp).1,ev];rfl,by rw [hlen],fun j u hj=>?_,?_⟩
 ·rw [Ya7] at hj
  split at hj
  ·exact Znw hcells j u hj
  ·cases hj
 ·rw [Zcr hR];exact r2.take _
end
def ZbG (n k:Nat):List Int:=List.replicate k (-1)++List.replicate (n - k) 0
theorem Zii {n k:Nat} (h:k≤n):(ZbG n k).length=n:=by unfold ZbG;rw [Yd,YZ,YZ];omega
theorem Zkf {n:Nat} (h:1≤n):[(-1:Int)] ++ (List.replicate n (0:Int)).drop [(-1:Int)].length=ZbG n 1:=by unfold ZbG;rw [List.drop_replicate];rfl
theorem Zgs {n k:Nat} (h:k<n):(ZbG n k).take k++(ZbG n k).take (min k ((ZbG n k).length - k))++(ZbG n k).drop (k+((ZbG n k).take (min k ((ZbG n k).length - k))).length)=ZbG n (k+min k (n - k))∧((ZbG n k).take (min k ((ZbG n k).length - k))).length=min k (n - k):=by
 have hl:=Zii (Nat.le_of_lt h)
 have hlen:((ZbG n k).take (min k (n - k))).length=min k (n - k):=by rw [Yj,hl];omega
 rw [hl,hlen]
 refine ⟨?_,rfl⟩
 have t1:∀ j,j≤k→(ZbG n k).take j=List.replicate j (-1):=fun j hj=>by
  unfold ZbG
  rw [Y0 (by rw [YZ];exact hj),List.take_replicate,Yav hj]
 have d1:∀ j,(ZbG n k).drop (k+j)=List.replicate (n - k - j) 0:=fun j=>by
  unfold ZbG
  rw [YbF,Ya1 (by rw [YZ];omega),YZ,List.drop_replicate,Yad]
  congr 1;omega
 rw [t1 k (YO _),t1 _ ow,d1]
 unfold ZbG
 rw [List.replicate_append_replicate]
 congr 2;omega
theorem Zoj {n k:Nat} (h:n≤k) (h2:k≤n):ZbG n k=List.replicate n (-1):=by
 have:k=n:=by omega
 subst this
 unfold ZbG;simp
theorem Zu2 (x y:Int):FnP prog 247 [.int .u64 x,.int .u64 y] (.tup [.int .u64 (x*y / 18446744073709551616),.int .u64 (x*y % 18446744073709551616)]):=by
 refine FnP.mk func247 rfl ntmps247 rfl fun B a w F V hfr G=>Ya ?_
 refine rZ G (qI (qI qZ)) V [5,4,1,0] [0] fun G=>Ya ?_
 refine wp_cond (by rfl) ?_
 refine Ye (Za (Ya (rZ G (qR rr (qR rr (qf (oP (Zt8 x y) func255 (Args.two .t .t)) r2 qz (qR rr (qf (Zh .t rfl) r1 qz (qf (Zh .t rfl) r1 qz (qO rr (qO rr qZ)))))))) V [9,8,5,4] [0] fun G=>Ya ?_)))
 refine rZ G (qR rr (qR rr (qO rr (qO rr qZ)))) V [5,4] [0] fun G=>Yh ?_
 refine Z2 hfr G rfl (.tmp rfl (.tmp rfl .nil)) (.two .refl .refl)
theorem ZrX (n:Nat) (hn1:1≤n) (hn2:n≤1000000):FnG prog 227 1 [.sl rInt [-1],.int .i64 (n:Int)] [.star []] (PV.one) (fun v=>[ZA 3 1 rInt (List.replicate n (-1)) v]):=by
 refine FnG.mk func227 rfl ntmps227 rfl kr fun B F0 a w F V hG G=>?_
 have hu1:IntKind.wrap .u64 ((([(-1)]:List Int).length:Nat):Int)=1:=Zal (by decide)
 have hu2:IntKind.wrap .u64 (n:Int)=n:=Zal ow
 have hw:IntKind.wrap .i64 (n:Int)=n:=Zy ow
 have hm:(1:Int)*(n:Int) / 18446744073709551616=0∧(1:Int)*(n:Int) % 18446744073709551616=(n:Int):=by omega
 obtain ⟨F,G⟩:=G.nM [1,0] [0]
 refine Ya (rZ G (qC qZ) V [4,1,0] [0] fun G=>(Ya (Ya ?_)))
 refine rZ G (qR rr (qf (Zay .t qi) r1 qz qZ)) V [10,4,1,0] [0] fun G=>?_
 refine Zc G rfl (fun hc0=>?_) (fun hc0=>?_)
 ·have:=Yt hc0;omega
 refine Ye (Za (Ya (Zf G (qR rr (qu underlying45 r1 (qf (o_conv underlying162 kr .t) r1 qz (qR rr (qf (o_conv underlying162 kr .t) r1 qz (qf (oP (Zu2 _ _) func247 (Args.two .t .t)) r2 qz (qR rr (qf (Zh .t rfl) r1 qz (qf (Zh .t rfl) r1 qz (qO rr (qO rr qZ))))))))))) V [6,5,4,0] [0] rfl rfl fun a w F G=>?_)))
 rw [hu1,hu2,hm.1,hm.2] at G
 refine Za (Ya (Ya (rZ G (qR rr (qf (ZaU .t qi) r1 qz (qR rr (qm rfl rfl rfl rfl (qk rfl (fun h=>ZaU (.w h) qi) r2 qz (qf (Zam .t .t) r2 qz qZ)))))) V [26,6,4,0] [0] fun G=>?_)))
 refine Zc G rfl (fun hc1=>?_) (fun hc1=>?_)
 ·simp at hc1;omega
 refine Ye (Za (Ya (Zb G (qR rr (qf (o_conv underlying3 kr .t) r1 qz (qf (ZaE (R:=rInt) (v:=0) (c:=(IntKind.wrap .i64 (n:Int))) (sz:=1) (bs:=8) (zs:=[.int .i64 0]) 101 underlying45 kr kr kr (fun _ _=>⟨⟨rfl,rfl,Zdj⟩,tv⟩) .t .t (by rw [hw];omega) (by rw [hw];omega) (by rw [hw];omega)) r2 qz (qO rr qZ)))) V [7,4,0] [101,0] (fun _=>rfl) (fun _=>rfl) fun τ a w F G=>?_)))
 try dsimp only [RS.sub,SF.sub,CF.sub,csub,Anc.sub,List.map,Ze,xL,xM,Nat.reduceAdd,xD,xE,xT,xU,xC,xN,zCF,Zat,Zas,rInt,Zak] at G
 generalize τ 30=v30 at G
 rw [hw,Yb] at G
 refine Za (Ya (Zf G (qR rr (qR rr (qf (Zj5 101 underlying45 kr (by intro x;rfl) .t .t (by simp) (by rw [YZ];exact hn1)) r2 r1 (qO rr qZ)))) V [8,7,4] [101,0] rfl rfl fun a w F G=>?_))
 rw [Zkf hn1] at G
 refine Za (Ya (Yg ?_))
 replace G:=G.ent (i:=8) (s':=.pv (.int .i64 ((1:Nat):Int))) rfl (.int rfl)
 refine Zl (σ:=Nat) [4,7] [0] (fun s=>[(8,.pv (.int .i64 (s:Int)))]) (fun s=>[(101,.ob (.val v30) (ZA 3 1 rInt (ZbG n s)))]) (fun s=>1≤s∧s≤n) (fun s=>n - s) (1) G ⟨rfl,rfl,rfl,tv⟩ ⟨rfl,rfl,tv⟩ ⟨YO 1,hn1⟩ ?_
 clear G;intro k a w F hC G
 try dsimp only at hC
 obtain ⟨F,G⟩:=G.nM [8,7,4] [101,0]
 try dsimp only at G
 obtain ⟨hk1,hk2⟩:=hC
 have hfl:=Zii hk2
 refine Ya (Ya (rZ G (qR rr (qR rr (qf (Z1 101 underlying45 .is) r1 r1 (qL r2)))) V [37,8,7,4] [101,0] fun G=>?_))
 refine Zc G rfl (fun hc2=>?_) (fun hc2=>?_)
 ·have hkn:k<n:=by have h9:=Yt hc2;rw [hfl] at h9;omega
  refine Ye (Za (Yg (Zx G (qR rr (qR rr (qR rr (qf (ZaV (sz:=1) 101 (.mk underlying45 kr) .is .t ow (by rw [hfl];omega)) r2 r1 (qR rr (qR rr (qf (ZgR (sz:=1) 101 (.mk underlying45 kr) .is .t ow (by rw [hfl];omega)) r2 r1 (qf (ZjB 101 underlying45 kr (by intro x;rfl) .t .t rfl rfl ow (by rw [hfl];exact hkn)) r2 r1 (qf (o_add .t .t) r2 qz (qO rr qZ)))))))))) V [8,7,4] [101,0] rfl rfl fun a w F G=>?_)))
  try dsimp only [Zat,Zas,rInt,Zak] at G
  simp only [Yb] at G
  rw [(Zgs hkn).1] at G
  refine Zj (Za ?_)
  replace G:=G.ent (i:=8) (s':=.pv (.int .i64 ((k+min k (n - k):Nat):Int))) rfl (.int (by rw [(Zgs hkn).2,Zy ow];omega))
  obtain ⟨F,G⟩:=G.nM [7,4,8] [0,101]
  exact ⟨(k+min k (n - k)),F,⟨by omega,by omega⟩,G,by omega⟩
 have hkn:n≤k:=by have h9:=YG hc2;rw [hfl] at h9;omega
 rw [Zoj hkn hk2] at G
 have hg:(List.replicate n (-1):List Int)=List.replicate n (-1):=rfl
 refine Yw (Zi (Zi (Zn (Za (Ya (rZ G (qR rr (qO rr qZ)) V [4] [101,0] fun G=>Yh ?_))))))
 obtain ⟨F,G⟩:=G.rename 101 1 rfl rfl
 have G:=G.turn 1 rfl (r':=RS.hp (ZA 3 1 rInt (List.replicate n (-1)) v30)) (fun _ _ _ _ h=>by rw [hg];exact h)
 refine Z8 (h':=fun v=>ZA 3 1 rInt (List.replicate n (-1)) v) hG G rfl (.tmp rfl .nil) (.one .one) rfl
theorem Zo7 (O I:List (List Z5)) (m:Nat) (mask least:Int) (hn1:1≤O.length) (hn2:O.length≤1000000):FnG prog 204 1 [.agg [Zel O I m,.int .i64 mask,.int .i64 least]] [.star []] (PV.one) (fun v=>[ZA 3 1 rInt (List.replicate O.length (-1)) v]):=by
 refine FnG.mk func204 rfl ntmps204 rfl kr fun B F0 a w F V hG G=>?_
 have hg:(List.replicate O.length (-1):List Int)=List.replicate O.length (-1):=rfl
 obtain ⟨F,G⟩:=G.nM [0] [0]
 refine Ya (Zb G (qx 101 r1 (qC qZ)) V [2,1] [101,0] (fun _=>rfl) (fun _=>rfl) fun τ a w F G=>?_)
 try dsimp only [RS.sub,SF.sub,CF.sub,csub,Anc.sub,List.map,zCF,Zat,Zas,rInt,Zak] at G
 generalize τ 1=v1 at G
 refine Za (Ya ?_)
 replace G:=G.fresh 102 rfl
 refine Zb G (qf (o_buildSliceE (sz:=1) (zs:=[.int .i64 0]) (r:=[(0,_)]) (l:=[_]) underlying45 kr kr kr kr rfl rfl (.one rfl qi one_int kr .nil) rfl) trivial qz (qg 0 101 r1 r1 (qa 101 r1 r1 (qf (oP (Zcf O I m) func158 (Args.one .t)) r1 qz (qf (Zav 102 (ZrX O.length hn1 hn2) func227 rfl kr (Args.two (.conv .t (Ent.arrSl (R:=rInt) (l:=[-1]) rfl)) .t) pvOne1) r2 r1 (qO rr qZ)))))) V [2] [102,101,0] (fun _=>rfl) (fun _=>rfl) fun τ a w F G=>?_
 try dsimp only [RS.sub,SF.sub,CF.sub,csub,Anc.sub,List.map,Ze,xL,xM,Nat.reduceAdd,xD,xE,xT,xU,xC,xN,zCF,ldSF,Zat,Zas,rInt,Zak] at G
 generalize τ 7=v7 at G
 refine Za (Yh ?_)
 obtain ⟨F,G⟩:=G.rename 102 1 rfl rfl
 have G:=G.turn 1 rfl (r':=RS.hp (ZA 3 1 rInt (List.replicate O.length (-1)) v7)) (fun _ _ _ _ h=>by rw [hg];exact h)
 refine Z8 (h':=fun v=>ZA 3 1 rInt (List.replicate O.length (-1)) v) hG G rfl (.tmp rfl .nil) (.one .one) rfl
theorem ZnX (O I:List (List Z5)) (m:Nat) (mask least u:Int):FnP prog 205 [.agg [Zel O I m,.int .i64 mask,.int .i64 least],.int .i64 u] (.bool (decide (least≤u∧0≤u∧u<O.length))):=by
 refine FnP.mk func205 rfl ntmps205 rfl fun B a w F V hfr G=>Ya ?_
 refine Zb G (qx 101 r1 qB) V [4,2,1] [101,0] (fun _=>rfl) (fun _=>rfl) fun τ a w F G=>?_
 try dsimp only [RS.sub,SF.sub,CF.sub,csub,Anc.sub,List.map,zCF,Zat,Zas,rInt,Zak] at G
 generalize τ 2=v2 at G
 refine Za (Ya (rZ G (qR rr (qg 2 101 r1 r1 (qa 101 r1 r1 (qf (ZnR .t qi) r1 qz (qf (Zbi .t .t) r2 qz (qR rr (qm rfl rfl rfl rfl (qv 0 101 rfl r2 r1 (qw 101 rfl r2 r1 (qk rfl (fun h=>oP (Zcf O I m) func158 (Args.one (.w h))) r2 qz (qk rfl (fun h=>Zay (.w h) (.w h)) r3 qz (qf (ZD .t .t) r2 qz (qO rr qZ))))))))))))) V [4] [0] fun G=>Yh ?_))
 refine Zo hfr G rfl rfl rfl (.bool (by rw [Yan];simp;split <;> omega))
section
variable {P:Program} {t t2 e ty:TypeId} {pos:String} {af:Array Edge} {g:Option (Nat×Bool)} {x y:Operand} {ps qs:List (Nat×SF)} {α:Type} {R:α→List PV} {l s:List α} {sz:Nat} {v:Value}
theorem Zl4 {d':Nat} (n:Nat) (hu:P.underlying t=some (.slice e)) (hs:(P.info? e).map (·.size)=some sz) (hR:∀ x,(R x).length=sz) (hx:Opd x ps (.pv (.is v))) (hy:Opd y qs (.pv (.sl R s))) (hk:s.length≤l.length) :
  OpC P ⟨some d',.call { callee:=.builtin .copy,args:=#[x,y],argTypes:=#[t,t2] },ty,pos,af,g⟩ ⟨ps++qs,[(n,.ob (.val v) (ZA e sz R l))],.pv .any,[(n,.ob (.val v) (ZA e sz R (s++l.drop s.length)))]⟩:=fun act w F K Q hw hp hr ht=>by
 obtain ⟨xs,r1,r2,r3⟩:=id (hr (n,.ob (.val v) (ZA e sz R l)) (by simp))
 obtain ⟨ad,cap,ev,_,_,_⟩:=ZL r1
 simp only [Anc.v] at ev
 by_cases hs0:s = []
 ·subst hs0
  obtain ⟨sa,sc,es,_,_,_⟩:=hy act w (U F) hp.right
  have ex:act.eval x = .slice ad l.length cap:=by rw [(hx act w (U F) hp.left).1,ev]
  have hrun:(execOp act.eval ⟨some d',.call { callee:=.builtin .copy,args:=#[x,y],argTypes:=#[t,t2] },ty,pos,af,g⟩).run P w = .ok (.value (goInt 0)) w:=by
   cases ad <;> cases sa <;> simp [execOp,resolve,invoke,builtin,ex,es,Builtin.copy_,Ym hu,Builtin.lenOf,Builtin.firstCells,Go.Gm.run_sizeOf hs,goInt,storeCells,loadCells,loadCellsFrom]
  simp only [Oper.wp,hrun,Oper.upon]
  refine ht _ _ F hw ⟨rfl,rfl,rfl,YO _,fun _ _ _=>rfl,fun _ _=>rfl,fun n hn b hb=>.inl ⟨n,hn,hb⟩⟩ trivial ?_
  intro z' hz'
  simp only [Yk] at hz'
  subst hz'
  exact hr (n,.ob (.val v) (ZA e sz R l)) (by simp)
 ·have hsl0:0<s.length:=Yax.2 hs0
  have hv:Zjc sz 0 v=v:=by
   rcases r1.2 with ⟨_,hn0⟩ | ⟨b,cap,cur,ev,_⟩
   ·omega
   ·simp only [Anc.v] at ev
    rw [ev];simp [Zjc]
  have h:=o_copy_sub (P:=P) (t2:=t2) (ty:=ty) (pos:=pos) (af:=af) (g:=g) (s:=s) (l:=l) (v:=v) (k:=0) (d':=d') n hu hs hR (by rw [hv];exact hx) hy hs0 ow
  rw [List.take_zero,Yad,Y2] at h
  exact h act w F K Q hw hp hr ht
end
theorem Zmg (x m:Nat) (hx:x<18446744073709551616) (hm:m<18446744073709551616):bits .and .u64 (x:Int) (m:Int)=((x &&& m:Nat):Int):=by
 have h1:(BitVec.ofInt 64 (x:Int)).toNat=x:=by rw [YaI];omega
 have h2:(BitVec.ofInt 64 (m:Int)).toNat=m:=by rw [YaI];omega
 show IntKind.wrap .u64 (((BitVec.ofInt 64 (x:Int) &&& BitVec.ofInt 64 (m:Int)).toNat:Nat):Int)=_
 rw [Ybo,h1,h2]
 exact Zal (by have:=Nat.and_lt_two_pow (n:=64) x (y:=m) ow;omega)
theorem Zt5 {n:Nat} (h:n≤65536):IntKind.wrap .i64 ((n:Int)*2 ^ min (1:Int).toNat (IntKind.bits .i64))=((2*n:Nat):Int):=by
 have:min (1:Int).toNat (IntKind.bits .i64)=1:=by decide
 rw [this,Zy ow];omega
def growN (n:Nat):Nat:=if n=0 then 1 else 2*n
theorem ZhS {n:Nat} (h:n≤65536):(if (1:Int)<IntKind.wrap .i64 ((n:Int)*2 ^ min (1:Int).toNat (IntKind.bits .i64)) then IntKind.wrap .i64 ((n:Int)*2 ^ min (1:Int).toNat (IntKind.bits .i64)) else 1)=((growN n:Nat):Int):=by
 rw [Zt5 h]
 unfold growN
 split <;> split <;> omega
theorem ZrK {n:Nat} (h:n≤65536) (hp:n=0 ∨ ∃ k,k≤17∧n=2 ^ k):∃ k,k≤17∧growN n=2 ^ k:=by
 unfold growN
 rcases hp with rfl | ⟨k,hk,rfl⟩
 ·exact ⟨0,by decide,rfl⟩
 ·have h0:2 ^ k≠0:=by simp
  rw [Yc h0]
  refine ⟨k+1,?_,by rw [Nat.pow_succ];omega⟩
  refine YY (Nat.lt_of_not_le fun h2=>?_)
  have:2 ^ 17≤2 ^ k:=Nat.pow_le_pow_right (by decide) ow
  omega
structure Zgd (room:Int) (c:List Int) (f:Nat) (l:List Int):Prop where
 r0:0≤room
 r1:room≤65536
 fits:(l.length:Int)≤room
 le:l.length≤c.length
 pow:(c.length=0∧f=0)∨(f<c.length ∧ ∃ k,k≤17∧c.length=2 ^ k)
 cells:∀ j,j<l.length→Nn c ((f+j) % c.length)=Nn l j
theorem Zt4 {n f j k:Nat} (h1:j<k) (h2:k<n):(f+j) % n≠(f+k) % n:=by
 intro e
 have h:=Nat.sub_mod_eq_zero_of_mod_eq e.symm
 rw [show f+k - (f+j)=k - j by omega,Nat.mod_eq_of_lt ow] at h
 omega
theorem Zgd.new {n:Int} (h:0≤n∧n≤65536):Zgd n [] 0 []:=⟨h.1,h.2,h.1,YO _,.inl ⟨rfl,rfl⟩,fun j hj=>absurd hj (YX j)⟩
theorem ZpW {l:List Int} {x:Int} {j:Nat} : Nn (l ++ [x]) j=if j<l.length then Nn l j else if j=l.length then x else default:=by
 by_cases h:j<l.length
 ·rw [Yf h,nth_eq (by simp;omega),nth_eq h,List.getElem_append_left h]
 ·rw [Yc h]
  by_cases e:j=l.length
  ·subst e;rw [Yf rfl,nth_eq (by simp)];simp
  ·rw [Yc e];unfold Nn;simp [YaJ,show l.length+1≤j by omega]
theorem Zgd.put {room:Int} {c:List Int} {f:Nat} {l:List Int} {x:Int} (h:Zgd room c f l) (hl:(l.length:Int)<room) (hc:l.length<c.length):Zgd room (c.set ((f+l.length) % c.length) x) f (l ++ [x]):=by
 obtain ⟨h0,h1,h2,h3,h4,h5⟩:=h
 have hm:∀ j,(f+j) % c.length<c.length:=fun j=>Ybn _ ow
 refine ⟨h0,h1,by simp;omega,by simp;omega,?_,fun j hj=>?_⟩
 ·rcases h4 with h4 | ⟨h4,k,h6,h7⟩
  ·omega
  ·exact .inr ⟨by simpa using h4,k,h6,by simpa using h7⟩
 ·rw [Yd,YK] at hj
  rw [YT,Zck (hm _),ZpW]
  by_cases e:j=l.length
  ·subst e;rw [Yf rfl,Yc (Nat.lt_irrefl _),Yf rfl]
  ·rw [Yc fun k=>Zt4 (show j<l.length by omega) hc k,Yf ow]
   exact h5 j ow
theorem Zgd.tail {room:Int} {c:List Int} {f:Nat} {x:Int} {l:List Int} (h:Zgd room c f (x :: l)):Zgd room c ((f+1) % c.length) l:=by
 obtain ⟨h0,h1,h2,h3,h4,h5⟩:=h
 rw [Yl] at h2 h3 h5
 have hc:0<c.length:=by omega
 have e:∀ j,j<l.length→Nn (x :: l) (j+1)=Nn l j:=fun j hj=>by rw [nth_eq (by simpa using hj),nth_eq hj];rfl
 refine ⟨h0,h1,by omega,by omega,?_,fun j hj=>?_⟩
 ·rcases h4 with h4 | ⟨h4,k⟩
  ·omega
  ·exact .inr ⟨Ybn _ hc,k⟩
 ·rw [Nat.mod_add_mod,← e j hj,← h5 (j+1) ow]
  congr 2;omega
theorem Zgd.first {room:Int} {c:List Int} {f:Nat} {x:Int} {l:List Int} (h:Zgd room c f (x :: l)):Nn c ((f+0) % c.length)=x:=by
 rw [h.cells 0 (by simp),nth_eq (by simp)];rfl
theorem Zgd.grow {room:Int} {l d:List Int} (h0:0≤room) (h1:room≤65536) (h2:(l.length:Int)≤room) (h3:l.length≤d.length) (ht:d.take l.length=l) (hp:∃ k,k≤17∧d.length=2 ^ k):Zgd room d 0 l:=by
 have hd:0<d.length:=by obtain ⟨k,_,e⟩:=hp;rw [e];exact Nat.pos_of_ne_zero (by simp)
 refine ⟨h0,h1,h2,h3,.inr ⟨hd,hp⟩,fun j hj=>?_⟩
 rw [Y2,Nat.mod_eq_of_lt ow]
 have e:(d.take l.length)[j]? = l[j]?:=by rw [ht]
 rw [Ybx hj,Yau hj] at e
 obtain ⟨h2,e2⟩:=YI.1 e
 rw [nth_eq h2,nth_eq hj,e2]
theorem Zgd.ring {room:Int} {c:List Int} {f:Nat} {l:List Int} (h:Zgd room c f l) (hc:0<c.length):(∃ k,k≤17∧c.length=2 ^ k)∧f<c.length:=by
 rcases h.pow with ⟨h1,_⟩ | ⟨h1,h2⟩
 ·omega
 ·exact ⟨h2,h1⟩
theorem Zgd.pow0 {room:Int} {c:List Int} {f:Nat} {l:List Int} (h:Zgd room c f l):c.length=0 ∨ ∃ k,k≤17∧c.length=2 ^ k:=by
 rcases h.pow with ⟨h1,_⟩ | ⟨_,h2⟩
 ·exact .inl h1
 ·exact .inr h2
def ZvP (v rv:Value) (room:Int) (n f:Nat) (c:List Int):List RS:=[.pt (.val v) 303 [.pv (.int .i64 room),.pv (.is rv),.pv (.int .u64 (f:Int)),.pv (.int .i64 (n:Int))],.ob (.val rv) (ZA 3 1 rInt c)]
def rqH (v:Value) (room:Int) (l:List Int):HP:=.ex fun rv:Value=>.ex fun c:List Int=>.ex fun f:Nat=>.and (Zgd room c f l) (.star (ZvP v rv room l.length f c))
theorem Zo1 {v:Value} {room:Int} {l:List Int} {w:World} {f y:Ys} (h:(rqH v room l).p w f y):∃ b,v = .pointer (some ⟨b,0,none⟩):=by
 obtain ⟨rv,c,f,_,g⟩:=h
 exact HP.star_pt g
theorem ZtA {f i n:Nat} {z:Int} (hz:z=i) (hp:∃ k,k≤17∧n=2 ^ k) (hf:f<n) (hi:i≤n):bits .and .u64 (IntKind.wrap .u64 ((f:Int)+IntKind.wrap .u64 z)) (IntKind.wrap .u64 (IntKind.wrap .i64 ((n:Int) - 1)))=(((f+i) % n:Nat):Int):=by
 subst hz
 obtain ⟨k,hk,rfl⟩:=hp
 have h17:2 ^ k≤2 ^ 17:=Nat.pow_le_pow_right (by decide) hk
 have h0:0<2 ^ k:=Nat.pos_of_ne_zero (by simp)
 have e1:IntKind.wrap .u64 ((f:Int)+IntKind.wrap .u64 (i:Int))=((f+i:Nat):Int):=by rw [Zal (x:=(i:Int)) ow,Zal ow];omega
 have e2:IntKind.wrap .u64 (IntKind.wrap .i64 (((2 ^ k:Nat):Int) - 1))=((2 ^ k - 1:Nat):Int):=by rw [Zy ow,Zal ow];omega
 rw [e1,e2,Zmg _ _ ow ow,YaT]
theorem ZcW (c:List Int) (room:Int) (n f i:Nat) (z:Int) (hz:z=i) (hp:∃ k,k≤17∧c.length=2 ^ k) (hf:f<c.length) (hi:i≤c.length):FnP prog 230 [.ref [.int .i64 room,.sl rInt c,.int .u64 (f:Int),.int .i64 (n:Int)],.int .i64 z] (.int .u64 (((f+i) % c.length:Nat):Int)):=by
 refine FnP.mk func230 rfl ntmps230 rfl fun B a w F V hfr G=>Ya ?_
 refine rZ G (qI qZ) V [4,1,0] [0] fun G=>Ya ?_
 refine Zx G (qR rr (qf (ZC .t) r1 qz (qf (oG 2 .t) r1 qz (qf (oR false 1 .t) r1 qz (qR rr (qf (o_conv underlying162 kr .t) r1 qz (qf (o_add .t .t) r2 qz (qR rr (qf (ZC .t) r1 qz (qf (oG 1 .t) r1 qz (qf (oR false 1 .t) r1 qz (qu underlying45 r1 (qf (o_sub .t qi) r1 qz (qf (o_conv underlying162 kr .t) r1 qz (qf (o_and .t .t) r2 qz (qO rr qZ)))))))))))))))) V [4] [0] rfl rfl fun a w F G=>?_
 try dsimp only [List.map,xD,xE,xT,xU,ldSF,rInt] at G
 refine Za (Yh (Zo hfr G rfl rfl rfl (.int (ZtA hz hp hf hi))))
theorem ZjY (room n:Int) (p q:PV):FnP prog 248 [.ref [.int .i64 room,p,q,.int .i64 n]] (.int .i64 n):=by
 refine FnP.mk func248 rfl ntmps248 rfl fun B a w F V hfr G=>Ya ?_
 refine rZ G (qI qZ) V [2,0] [0] fun G=>(Ya (Ya ?_))
 refine rZ G (qR rr (qf (Zb3 underlying283 .t) r1 qz qZ)) V [4,2,0] [0] fun G=>?_
 refine Zc G rfl (fun hc0=>?_) (fun hc0=>?_)
 ·simp at hc0
 refine Ye (Za (Ya (rZ G (qR rr (qf (ZC .t) r1 qz (qf (oG 3 .t) r1 qz (qf (oR false 1 .t) r1 qz (qO rr qZ))))) V [2] [0] fun G=>Yh ?_)))
 refine Zo hfr G rfl rfl rfl .refl
theorem Zqa (room n:Int) (p q:PV) (hr:0≤room∧room≤65536) (hn:0≤n∧n≤65536):FnP prog 228 [.ref [.int .i64 room,p,q,.int .i64 n]] (.int .i64 (room - n)):=by
 refine FnP.mk func228 rfl ntmps228 rfl fun B a w F V hfr G=>Ya ?_
 refine rZ G (qI qZ) V [2,0] [0] fun G=>(Ya (Ya ?_))
 refine rZ G (qR rr (qf (Zb3 underlying283 .t) r1 qz qZ)) V [4,2,0] [0] fun G=>?_
 refine Zc G rfl (fun hc0=>?_) (fun hc0=>?_)
 ·simp at hc0
 refine Ye (Za (Ya (Zx G (qR rr (qf (ZC .t) r1 qz (qf (oG 0 .t) r1 qz (qf (oR false 1 .t) r1 qz (qR rr (qf (ZC .t) r1 qz (qf (oG 3 .t) r1 qz (qf (oR false 1 .t) r1 qz (qf (o_sub .t .t) r2 qz (qO rr qZ)))))))))) V [2] [0] rfl rfl fun a w F G=>?_)))
 try dsimp only [List.map,xD,xE,xT,xU,ldSF,rInt] at G
 refine Za (Yh (Zo hfr G rfl rfl rfl (.int (Zy ow))))
theorem ZqR (b:Nat) (room:Int) (l:List Int):FnG prog 229 1 [.is (.pointer (some ⟨b,0,none⟩))] [rqH (.pointer (some ⟨b,0,none⟩)) room l] (.sl rInt l) (fun _=>[rqH (.pointer (some ⟨b,0,none⟩)) room l]):=by
 refine FnG.mk func229 rfl ntmps229 rfl kr fun B F0 a w F V hG G=>?_
 obtain ⟨rv,G⟩:=G.open_ex 1 rfl
 obtain ⟨c,G⟩:=G.open_ex 1 rfl
 obtain ⟨f,G⟩:=G.open_ex 1 rfl
 obtain ⟨hI,G⟩:=G.open_and 1 rfl
 obtain ⟨F,G⟩:=G.peel 1 2 rfl rfl
 obtain ⟨F,G⟩:=G.peel 1 3 rfl rfl
 have hle:=hI.le
 have hfit:=hI.fits
 have hr0:=hI.r0
 have hr1:=hI.r1
 obtain ⟨F,G⟩:=G.nM [0] [3,2,0]
 refine Ya (rZ G (qC qZ) V [2,0] [3,2,0] fun G=>Ya ?_)
 refine rZ G (qC qZ) V [3,2,0] [3,2,0] fun G=>(Ya (Ya ?_))
 refine rZ G (qR rr (qf (ZhF (cells:=[.pv _,.pv _,.pv _,.pv _]) 2 (ZjY room l.length _ _) (fun _ _ _ _ _ h=>h) rfl func248 rfl kr (Zab.one .is)) r1 r1 (qJ qZ))) V [7,6,3,2,0] [3,2,0] fun G=>Yg ?_
 replace G:=G.fresh 50 rfl
 replace G:=G.turn 50 rfl (ZaA (T:=3) (sz:=1) (R:=rInt))
 refine Zl (σ:=(Nat)×(Value)×(List Int)) [0,2,6] [0,2,3] (fun s=>[(7,.pv (.int .i64 (s.1:Int))),(3,.pv (.is s.2.1))]) (fun s=>[(50,.ob (.val s.2.1) (ZA 3 1 rInt s.2.2))]) (fun s=>s.1≤l.length∧(s.2.2=l.take s.1)) (fun s=>l.length - s.1) ((0),(.slice none 0 0),([])) G ⟨rfl,rfl,rfl,rfl,rfl,tv⟩ ⟨rfl,rfl,rfl,rfl,tv⟩ ⟨Yv _,rfl⟩ ?_
 clear G;intro s a w F hC G
 obtain ⟨i,v,out⟩:=s
 try dsimp only at hC
 obtain ⟨F,G⟩:=G.nM [7,6,3,2,0] [50,3,2,0]
 try dsimp only at G
 obtain ⟨hi,hq⟩:=hC
 have hol:out.length≤i:=by rw [hq,Yj];omega
 refine Ya (rZ G (qL r2) V [8,7,6,3,2,0] [50,3,2,0] fun G=>Ya ?_)
 refine Zc G rfl (fun hc0=>?_) (fun hc0=>?_)
 ·have hil:i<l.length:=by simp at hc0;omega
  have hil2:i<l.length:=by simp at hc0;omega
  have hmi:(f+i) % c.length<c.length:=Ybn _ ow
  have hnl:Nn c ((f+i) % c.length)=Nn l i:=hI.cells i hil2
  refine Ye (Za (Ya (Yg (Ya (rZ G (qR rr (qO rr qZ)) V [7,6,4,3,2,0] [50,3,2,0] fun G=>?_)))))
  refine ZaI G (qR rr (qR rr (qf (o_nilCheck 2 .is (by rfl)) r1 r1 (qf (oF 1 2 .adr) r1 r1 (qa 2 r1 r1 (qR rr (qR rr (qf (ZbN (cells:=[.pv _,.pv (.is rv),.pv _,.pv _]) 2 3 1 (ZcW c room l.length f i (i:Int) rfl (hI.ring ow).1 (hI.ring ow).2 ow) (fun _ _ _ _ _ h=>h) rfl func230 rfl kr rfl rfl (Zab.two .is .t)) r2 r2 (qf (o_indexAddr_row (sz:=1) 3 (.mk underlying45 kr) .is .t ow ow (by rfl)) r2 r1 (qf (Zv (ag:=false) (sz':=1) (sz:=1) 3 .t (by intro x;rfl) ow kr kr kr) r1 r1 (qf (o_buildSliceE (sz:=1) (zs:=[.int .i64 0]) (r:=[(0,.tmp 19)]) (l:=[_]) underlying45 kr kr kr kr rfl rfl (.one rfl .t one_int kr .nil) rfl) r1 qz (qf (ZW (sz:=1) (bs:=8) 50 (.mk' underlying45 kr kr) (by intro x;rfl) .is (.arr (l':=[_]) .t) (by simp only [Yl,Yy];omega) (by decide)) ⟨rfl,rfl,tv⟩ ⟨rfl,tv⟩ (qO rr qZ))))))))))))) V [7,6,3,2,0] [50,3,2,0] (fun _=>rfl) (fun _=>rfl) fun τ a w F G=>?_
  try dsimp only [RS.sub,SF.sub,CF.sub,csub,Anc.sub,List.map,Ze,xL,xM,Nat.reduceAdd,xD,xE,xT,xU,xC,xN,zCF,ldSF,rInt] at G
  generalize τ 21=v21 at G
  try simp only [Yb] at G
  refine Zj (Za (rZ G (qp r1 (qR rr qZ)) V [7,6,3,2,0] [50,3,2,0] fun G=>?_))
  replace G:=G.ent (i:=7) (s':=.pv (.int .i64 ((i+1:Nat):Int))) rfl (.int (Zd ow))
  obtain ⟨F,G⟩:=G.nM [6,2,0,3,7] [3,2,0,50]
  exact ⟨((i+1),_,_),F,⟨by omega,(by rw [hq,hnl,Zr hil])⟩,G,by omega⟩
 have hil:i=l.length:=by simp at hc0;omega
 refine Yw (Zi (Zi (Zn (Za (Ya (rZ G (qR rr (qO rr qZ)) V [2] [50,3,2,0] fun G=>Yh ?_))))))
 obtain ⟨F,G⟩:=G.give 50 2 rfl rfl
 have G:=G.fresh 1 rfl
 obtain ⟨F,G⟩:=G.push 1 3 rfl rfl rfl kr
 obtain ⟨F,G⟩:=G.push 1 2 rfl rfl rfl kr
 have G:=G.turn 1 rfl (r':=RS.hp (rqH (.pointer (some ⟨b,0,none⟩)) room l)) (fun _ _ _ _ h=>⟨_,_,_,hI,h⟩)
 refine Zac hG G rfl (.tmp rfl .nil) (.one (.sl (by rw [hq,hil,YD]))) rfl
theorem ZoH (n:Int):FnG prog 206 1 [.int .i64 n] [.star []] (PV.ptr) (fun v=>[rqH v (ZbO n) []]):=by
 refine FnG.mk func206 rfl ntmps206 rfl kr fun B F0 a w F V hG G=>Ya ?_
 refine rZ G (qC qZ) V [2,0] [1,0] fun G=>Ya ?_
 refine Zb G (qR rr (qf (oP (Zlw n) func199 (Args.one .t)) r1 qz (qf (oB [(0,.tmp 4)] [.int .i64 0,.slice none 0 0,.int .u64 0,.int .i64 0] [(0,1),(1,1),(2,1),(3,1)] (.one rfl .t one_int kr .nil)) r1 qz (qf (oX 101 .t) r1 qz (qO rr qZ))))) V [2] [101,1,0] (fun _=>rfl) (fun _=>rfl) fun τ a w F G=>?_
 try dsimp only [RS.sub,SF.sub,CF.sub,csub,Anc.sub,List.map,Ze,xL,xM,Nat.reduceAdd,xD,xE,xT,xU,xC,xN,zCF,rInt] at G
 generalize τ 6=v6 at G
 refine Za (Yh ?_)
 obtain ⟨b,rfl⟩:=G.shape 101 rfl
 have G:=G.fresh 3 rfl
 have G:=G.turn 3 rfl (ZaA (T:=3) (sz:=1) (R:=rInt))
 obtain ⟨F,G⟩:=G.push 1 3 rfl rfl rfl kr
 obtain ⟨F,G⟩:=G.push 1 101 rfl rfl rfl kr
 have G:=G.turn 1 rfl (r':=RS.hp (rqH (.pointer (some ⟨b,0,none⟩)) (ZbO n) [])) (fun _ _ _ _ h=>⟨_,[],0,Zgd.new (Zni n),h⟩)
 refine Z8 (h':=fun v=>rqH v (ZbO n) []) hG G rfl (.tmp rfl .nil) (.one .ptr) rfl
theorem ZnD (c:List Int) (room:Int) (f:Nat) (x:Int) (l:List Int) (hI:Zgd room c f (x :: l)):FnP prog 231 [.ref [.int .i64 room,.sl rInt c,.int .u64 (f:Int),.int .i64 (((x :: l).length:Nat):Int)]] (.tup [.int .i64 x,.bool true]):=by
 refine FnP.mk func231 rfl ntmps231 rfl fun B a w F V hfr G=>?_
 have hle:=hI.le
 rw [Yl] at hle
 have hmi:(f+0) % c.length<c.length:=Ybn _ ow
 refine Ya (rZ G (qI qB) V [3,2,0] [0] fun G=>(Ya (Ya ?_)))
 refine rZ G (qR rr (qf (oP (ZjY room _ _ _) func248 (Args.one .t)) r1 qz (qf (o_eql .t qi) r1 qz qZ))) V [6,3,2,0] [0] fun G=>?_
 refine Zc G rfl (fun hc0=>?_) (fun hc0=>?_)
 ·simp at hc0;try omega
 refine Ye (Za (Ya (Zx G (qR rr (qf (ZC .t) r1 qz (qf (oG 1 .t) r1 qz (qf (oR false 1 .t) r1 qz (qR rr (qf (oP (ZcW c room (x :: l).length f 0 0 rfl (hI.ring ow).1 (hI.ring ow).2 ow) func230 (Args.two .t qi)) r1 qz (qy 1 underlying45 r2 (qf (oR false 1 .t) r1 qz (qO rr qB))))))))) V [3,2] [0] rfl rfl fun a w F G=>?_)))
 try dsimp only [List.map,xD,xE,xT,xU,ldSF,rInt] at G
 try simp only [Yb] at G
 try simp only [Yb] at G
 rw [hI.first] at G
 refine Za (Yh (Z2 hfr G rfl (.tmp rfl (.tmp rfl .nil)) (.two .refl .refl)))
theorem ZmA (room:Int) (p q:PV):FnP prog 231 [.ref [.int .i64 room,p,q,.int .i64 0]] (.tup [.int .i64 0,.bool false]):=by
 refine FnP.mk func231 rfl ntmps231 rfl fun B a w F V hfr G=>Ya ?_
 refine rZ G (qI qB) V [3,2,0] [0] fun G=>(Ya (Ya ?_))
 refine rZ G (qR rr (qf (oP (ZjY room _ _ _) func248 (Args.one .t)) r1 qz (qf (o_eql .t qi) r1 qz qZ))) V [6,3,2,0] [0] fun G=>?_
 refine Zc G rfl (fun hc0=>?_) (fun hc0=>?_)
 ·refine Ya (rZ G (qI qB) V [3,2,0] [0] fun G=>(Yh (Zk ?_)))
  refine Z2 hfr G rfl (.tmp rfl (.tmp rfl .nil)) (.two .refl .refl)
 simp at hc0
theorem ZqB (b:Nat) (room:Int) (x:Int) (l:List Int):FnG prog 208 1 [.is (.pointer (some ⟨b,0,none⟩))] [rqH (.pointer (some ⟨b,0,none⟩)) room (x :: l)] (.tup [.int .i64 x,.bool true]) (fun _=>[rqH (.pointer (some ⟨b,0,none⟩)) room l]):=by
 refine FnG.mk func208 rfl ntmps208 rfl kr fun B F0 a w F V hG G=>?_
 obtain ⟨rv,G⟩:=G.open_ex 1 rfl
 obtain ⟨c,G⟩:=G.open_ex 1 rfl
 obtain ⟨f,G⟩:=G.open_ex 1 rfl
 obtain ⟨hI,G⟩:=G.open_and 1 rfl
 obtain ⟨F,G⟩:=G.peel 1 2 rfl rfl
 obtain ⟨F,G⟩:=G.peel 1 3 rfl rfl
 have hle:=hI.le
 have hfit:=hI.fits
 have hr0:=hI.r0
 have hr1:=hI.r1
 obtain ⟨F,G⟩:=G.nM [0] [3,2,0]
 rw [Yl] at hle hfit
 have hw1:IntKind.wrap .i64 ((((x :: l).length:Nat):Int) - 1)=((l.length:Nat):Int):=by rw [Yl,Zy ow];omega
 refine Ya (rZ G (qI qB) V [3,2,0] [3,2,0] fun G=>Ya ?_)
 refine rZ G (qR rr (qf (ZbN (cells:=[.pv _,.pv (.is rv),.pv _,.pv _]) 2 3 1 (ZnD c room f x l hI) Zhm rfl func231 rfl kr rfl rfl (Zab.one .is)) r1 r2 (qR rr (qf (Zh .t rfl) r1 qz (qf (Zh .t rfl) r1 qz (qO rr (qO rr qZ))))))) V [5,4,3,2,0] [3,2,0] fun G=>(Ya (Ya ?_))
 refine rZ G (qR rr qZ) V [11,5,4,3,2,0] [3,2,0] fun G=>?_
 refine Zc G rfl (fun hc0=>?_) (fun hc0=>?_)
 ·refine Ya (rZ G (qR rr (qR rr (qf (ZbN (cells:=[.pv _,.pv (.is rv),.pv _,.pv _]) 2 3 1 (ZcW c room (x :: l).length f 1 1 rfl (hI.ring ow).1 (hI.ring ow).2 ow) (fun _ _ _ _ _ h=>h) rfl func230 rfl kr rfl rfl (Zab.two .is qi)) r1 r2 (qf (o_nilCheck 2 .is (by rfl)) r1 r1 (qf (oF 2 2 .adr) r1 r1 (qf (ZaZ 2 .adr .t one_int kr kr) r2 r1 qZ)))))) V [5,4,3,2,0] [3,2,0] fun G=>?_)
  refine Zf G (qR rr (qf (o_nilCheck 2 .is (by rfl)) r1 r1 (qf (oF 3 2 .adr) r1 r1 (qa 2 r1 r1 (qf (o_sub .t qi) r1 qz (qf (o_nilCheck 2 .is (by rfl)) r1 r1 (qf (oF 3 2 .adr) r1 r1 (qf (ZaZ 2 .adr .t one_int kr kr) r2 r1 qZ)))))))) V [5,4,3,2] [3,2,0] rfl rfl fun a w F G=>?_
  rw [hw1] at G
  refine Za (Ya (rZ G (qR rr (qR rr (qO rr (qO rr qZ)))) V [3,2] [3,2,0] fun G=>Yh ?_))
  have G:=G.fresh 1 rfl
  obtain ⟨F,G⟩:=G.push 1 3 rfl rfl rfl kr
  obtain ⟨F,G⟩:=G.push 1 2 rfl rfl rfl kr
  have G:=G.turn 1 rfl (r':=RS.hp (rqH (.pointer (some ⟨b,0,none⟩)) room l)) (fun _ _ _ _ h=>⟨_,_,_,hI.tail,h⟩)
  refine Zac hG G rfl (.tmp rfl (.tmp rfl .nil)) (.two .refl .refl) rfl
 simp at hc0
theorem ZrN (b:Nat) (room:Int):FnG prog 208 1 [.is (.pointer (some ⟨b,0,none⟩))] [rqH (.pointer (some ⟨b,0,none⟩)) room []] (.tup [.int .i64 0,.bool false]) (fun _=>[rqH (.pointer (some ⟨b,0,none⟩)) room []]):=by
 refine FnG.mk func208 rfl ntmps208 rfl kr fun B F0 a w F V hG G=>?_
 obtain ⟨rv,G⟩:=G.open_ex 1 rfl
 obtain ⟨c,G⟩:=G.open_ex 1 rfl
 obtain ⟨f,G⟩:=G.open_ex 1 rfl
 obtain ⟨hI,G⟩:=G.open_and 1 rfl
 obtain ⟨F,G⟩:=G.peel 1 2 rfl rfl
 obtain ⟨F,G⟩:=G.peel 1 3 rfl rfl
 have hle:=hI.le
 have hfit:=hI.fits
 have hr0:=hI.r0
 have hr1:=hI.r1
 obtain ⟨F,G⟩:=G.nM [0] [3,2,0]
 refine Ya (rZ G (qI qB) V [3,2,0] [3,2,0] fun G=>Ya ?_)
 refine rZ G (qR rr (qf (ZhF (cells:=[.pv _,.pv _,.pv _,.pv _]) 2 (ZmA room _ _) Zhm rfl func231 rfl kr (Zab.one .is)) r1 r1 (qR rr (qf (Zh .t rfl) r1 qz (qf (Zh .t rfl) r1 qz (qO rr (qO rr qZ))))))) V [5,4,3,2,0] [3,2,0] fun G=>(Ya (Ya ?_))
 refine rZ G (qR rr qZ) V [11,5,4,3,2,0] [3,2,0] fun G=>?_
 refine Zc G rfl (fun hc0=>?_) (fun hc0=>?_)
 ·simp at hc0
 refine Ye (Za (Ya (rZ G (qR rr (qR rr (qO rr (qO rr qZ)))) V [3,2] [3,2,0] fun G=>Yh ?_)))
 have G:=G.fresh 1 rfl
 obtain ⟨F,G⟩:=G.push 1 3 rfl rfl rfl kr
 obtain ⟨F,G⟩:=G.push 1 2 rfl rfl rfl kr
 have G:=G.turn 1 rfl (r':=RS.hp (rqH (.pointer (some ⟨b,0,none⟩)) room [])) (fun _ _ _ _ h=>⟨_,_,_,hI,h⟩)
 refine Zac hG G rfl (.tmp rfl (.tmp rfl .nil)) (.two .refl .refl) rfl
theorem ZhW (b:Nat) (room:Int) (l:List Int):FnG prog 208 1 [.is (.pointer (some ⟨b,0,none⟩))] [rqH (.pointer (some ⟨b,0,none⟩)) room l] (.tup [.int .i64 (l.headD 0),.bool (decide (l≠[]))]) (fun _=>[rqH (.pointer (some ⟨b,0,none⟩)) room l.tail]):=by
 cases l with
 | nil=>exact ZrN b room
 | cons x l=>exact ZqB b room x l
theorem Zct (b:Nat) (room:Int) (l:List Int) (x:Int) (hrm:(l.length:Int)<room):FnG prog 207 1 [.is (.pointer (some ⟨b,0,none⟩)),.int .i64 x] [rqH (.pointer (some ⟨b,0,none⟩)) room l] (.int .i64 0) (fun _=>[rqH (.pointer (some ⟨b,0,none⟩)) room (l ++ [x])]):=by
 refine FnG.mk func207 rfl ntmps207 rfl kr fun B F0 a w F V hG G=>?_
 obtain ⟨rv,G⟩:=G.open_ex 1 rfl
 obtain ⟨c,G⟩:=G.open_ex 1 rfl
 obtain ⟨f,G⟩:=G.open_ex 1 rfl
 obtain ⟨hI,G⟩:=G.open_and 1 rfl
 obtain ⟨F,G⟩:=G.peel 1 2 rfl rfl
 obtain ⟨F,G⟩:=G.peel 1 3 rfl rfl
 have hle:=hI.le
 have hfit:=hI.fits
 have hr0:=hI.r0
 have hr1:=hI.r1
 obtain ⟨F,G⟩:=G.nM [1,0] [3,2,0]
 refine Ya (rZ G (qI qZ) V [4,1,0] [3,2,0] fun G=>(Ya (Ya ?_)))
 refine rZ G (qR rr (qf (ZhF (cells:=[.pv _,.pv _,.pv _,.pv _]) 2 (Zqa room l.length _ _ ⟨hr0,hr1⟩ ow) (fun _ _ _ _ _ h=>h) rfl func228 rfl kr (Zab.one .is)) r1 r1 (qf (o_eql .t qi) r1 qz qZ))) V [8,4,1,0] [3,2,0] fun G=>?_
 refine Zc G rfl (fun hc0=>?_) (fun hc0=>?_)
 ·simp at hc0;omega
 refine Ye (Za (Ya (Ya (Zx G (qR rr (qf (o_nilCheck 2 .is (by rfl)) r1 r1 (qf (oF 3 2 .adr) r1 r1 (qa 2 r1 r1 (qR rr (qf (o_nilCheck 2 .is (by rfl)) r1 r1 (qf (oF 1 2 .adr) r1 r1 (qa 2 r1 r1 (qf (Z1 3 underlying45 .is) r1 r1 (qf (o_eql .t .t) r2 qz qZ)))))))))) V [18,4,1,0] [3,2,0] rfl rfl fun a w F G=>?_))))
 try dsimp only [List.map,xD,xE,xT,xU,ldSF,rInt] at G
 refine Za (Zc G rfl (fun hc1=>?_) (fun hc1=>?_))
 ·have hcl:l.length=c.length:=by simp at hc1;omega
  have hp2:=ZrK (n:=c.length) ow hI.pow0
  rw [← hcl] at hp2
  clear hcl
  have hgl:l.length<growN l.length:=by unfold growN;split <;> omega
  refine Ya ?_
  have G:=G.fresh 1 rfl
  obtain ⟨F,G⟩:=G.push 1 3 rfl rfl rfl kr
  obtain ⟨F,G⟩:=G.push 1 2 rfl rfl rfl kr
  have G:=G.turn 1 rfl (r':=RS.hp (rqH (.pointer (some ⟨b,0,none⟩)) room l)) (fun _ _ _ _ h=>⟨_,_,_,hI,h⟩)
  obtain ⟨F,G⟩:=G.nM [18,4,1,0] [1,0]
  refine Zf G (qR rr (qf (ZJ 1 (ZqR b room l) func229 rfl kr (Args.one .t)) r1 r1 (qO rr qZ))) V [5,4,1,0] [1,0] rfl rfl fun a w F G=>?_
  obtain ⟨rv,G⟩:=G.open_ex 1 rfl
  obtain ⟨c,G⟩:=G.open_ex 1 rfl
  obtain ⟨f,G⟩:=G.open_ex 1 rfl
  obtain ⟨hI,G⟩:=G.open_and 1 rfl
  obtain ⟨F,G⟩:=G.peel 1 2 rfl rfl
  obtain ⟨F,G⟩:=G.peel 1 3 rfl rfl
  obtain ⟨F,G⟩:=G.nM [5,4,1,0] [3,2,0]
  refine Za (Ya (Zb G (qR rr (qR rr (qR rr (qf (o_nilCheck 2 .is (by rfl)) r1 r1 (qf (oF 3 2 .adr) r1 r1 (qa 2 r1 r1 (qf (o_shl .t qi (by decide)) r1 qz (qf (ZnR qi .t) r1 qz (qf (ZaE (R:=rInt) (v:=0) (c:=_) (sz:=1) (bs:=8) (zs:=[.int .i64 0]) 101 underlying45 kr kr kr (fun _ _=>⟨⟨rfl,rfl,Zdj⟩,tv⟩) .t .t (by rw [ZhS ow];omega) (by rw [ZhS ow];unfold growN;split <;> omega) (by rw [ZhS ow];unfold growN;split <;> omega)) r2 qz (qf (o_nilCheck 2 .is (by rfl)) r1 r1 (qf (oF 1 2 .adr) r1 r1 (qf (o_storeS 2 .adr kr kr) r2 r1 (qf (o_nilCheck 2 .is (by rfl)) r1 r1 (qf (oF 2 2 .adr) r1 r1 (qf (ZaZ 2 .adr qi one_int kr kr) r1 r1 qZ))))))))))))))) V [5,4,1,0] [101,3,2,0] (fun _=>rfl) (fun _=>rfl) fun τ a w F G=>?_))
  try dsimp only [RS.sub,SF.sub,CF.sub,csub,Anc.sub,List.map,Ze,xL,xM,Nat.reduceAdd,xD,xE,xT,xU,xC,xN,zCF,ldSF,rInt] at G
  generalize τ 29=v29 at G
  rw [ZhS ow,Yb] at G
  refine Za (Zf G (qR rr (qf (o_nilCheck 2 .is (by rfl)) r1 r1 (qf (oF 1 2 .adr) r1 r1 (qa 2 r1 r1 (qR rr (qf (Zl4 101 underlying45 kr (by intro x;rfl) .t .t (by rw [YZ];unfold growN;split <;> omega)) r2 r1 qZ)))))) V [4,1,0] [101,3,2,0] rfl rfl fun a w F G=>?_)
  obtain ⟨c2,hce⟩:∃ c2,c2=l++(List.replicate (growN l.length) (0:Int)).drop l.length:=⟨_,rfl⟩
  rw [← hce] at G
  have hcl2:c2.length=growN l.length:=by rw [hce,Yd,YH,YZ];omega
  have hc2:l.length<c2.length:=by rw [hcl2];exact hgl
  have ht2:c2.take l.length=l:=by rw [hce,List.take_left]
  rw [← hcl2] at hp2
  have hR:Zgd room c2 0 l:=Zgd.grow hr0 hr1 hfit (Nat.le_of_lt hc2) ht2 hp2
  have hP:=hR.put (x:=x) hrm hc2
  have hmi:(0+l.length) % c2.length<c2.length:=Ybn _ ow
  refine Za (Ya (Zx G (qR rr (qf (o_nilCheck 2 .is (by rfl)) r1 r1 (qf (oF 1 2 .adr) r1 r1 (qa 2 r1 r1 (qR rr (qR rr (qf (o_nilCheck 2 .is (by rfl)) r1 r1 (qf (oF 3 2 .adr) r1 r1 (qa 2 r1 r1 (qf (ZbN (cells:=[.pv _,.pv (.is v29),.pv _,.pv _]) 2 101 1 (ZcW c2 room l.length 0 l.length (l.length:Int) rfl hp2 ow ow) (fun _ _ _ _ _ h=>h) rfl func230 rfl kr rfl rfl (Zab.two .is .t)) r2 r2 (qR rr (qf (o_indexAddr_row (sz:=1) 101 (.mk underlying45 kr) .is .t ow ow (by rfl)) r2 r1 (qf (ZF (R:=rInt) (sz:=1) (v:=x) 101 .t (by intro x;rfl) ow .t rfl one_int kr) r2 r1 qZ))))))))))))) V [4,0] [101,3,2,0] rfl rfl fun a w F G=>?_))
  try dsimp only [List.map,Ze,xL,xM,Nat.reduceAdd,xD,xE,xT,xU,xC,xN,zCF,ldSF,rInt] at G
  try simp only [Yb] at G
  try rw [Yb] at G
  refine Za (Ya (rZ G (qR rr (qf (o_nilCheck 2 .is (by rfl)) r1 r1 (qf (oF 3 2 .adr) r1 r1 (qa 2 r1 r1 (qp r1 (qf (o_nilCheck 2 .is (by rfl)) r1 r1 (qf (oF 3 2 .adr) r1 r1 (qf (ZaZ 2 .adr .t one_int kr kr) r2 r1 qZ)))))))) V [4] [101,3,2,0] fun G=>Ya ?_))
  refine rZ G (qI qZ) V [4] [101,3,2,0] fun G=>Yh ?_
  rw [Zd ow] at G
  have G:=G.fresh 1 rfl
  obtain ⟨F,G⟩:=G.push 1 101 rfl rfl rfl kr
  obtain ⟨F,G⟩:=G.push 1 2 rfl rfl rfl kr
  have G:=G.turn 1 rfl (r':=RS.hp (rqH (.pointer (some ⟨b,0,none⟩)) room (l ++ [x]))) (fun _ _ _ _ h=>⟨_,_,0,hP,(by rw [Yd];exact h)⟩)
  refine Zac hG G rfl (.tmp rfl .nil) (.one .refl) rfl
 have hc2:l.length<c.length:=by simp at hc1;omega
 obtain ⟨c2,hce⟩:∃ c2,c2=c:=⟨_,rfl⟩
 rw [← hce] at G hc2
 have hR:Zgd room c2 f l:=by rw [hce];exact hI
 obtain ⟨hp2,hf2⟩:=hR.ring ow
 have hP:=hR.put (x:=x) hrm hc2
 have hmi:(f+l.length) % c2.length<c2.length:=Ybn _ ow
 refine Ye (Za (Ya (Zx G (qR rr (qf (o_nilCheck 2 .is (by rfl)) r1 r1 (qf (oF 1 2 .adr) r1 r1 (qa 2 r1 r1 (qR rr (qR rr (qf (o_nilCheck 2 .is (by rfl)) r1 r1 (qf (oF 3 2 .adr) r1 r1 (qa 2 r1 r1 (qf (ZbN (cells:=[.pv _,.pv (.is rv),.pv _,.pv _]) 2 3 1 (ZcW c2 room l.length f l.length (l.length:Int) rfl hp2 ow ow) (fun _ _ _ _ _ h=>h) rfl func230 rfl kr rfl rfl (Zab.two .is .t)) r2 r2 (qR rr (qf (o_indexAddr_row (sz:=1) 3 (.mk underlying45 kr) .is .t ow ow (by rfl)) r2 r1 (qf (ZF (R:=rInt) (sz:=1) (v:=x) 3 .t (by intro x;rfl) ow .t rfl one_int kr) r2 r1 qZ))))))))))))) V [4,0] [3,2,0] rfl rfl fun a w F G=>?_)))
 try dsimp only [List.map,Ze,xL,xM,Nat.reduceAdd,xD,xE,xT,xU,xC,xN,zCF,ldSF,rInt] at G
 try simp only [Yb] at G
 try rw [Yb] at G
 refine Za (Ya (rZ G (qR rr (qf (o_nilCheck 2 .is (by rfl)) r1 r1 (qf (oF 3 2 .adr) r1 r1 (qa 2 r1 r1 (qp r1 (qf (o_nilCheck 2 .is (by rfl)) r1 r1 (qf (oF 3 2 .adr) r1 r1 (qf (ZaZ 2 .adr .t one_int kr kr) r2 r1 qZ)))))))) V [4] [3,2,0] fun G=>Ya ?_))
 refine rZ G (qI qZ) V [4] [3,2,0] fun G=>Yh ?_
 rw [Zd ow] at G
 have G:=G.fresh 1 rfl
 obtain ⟨F,G⟩:=G.push 1 3 rfl rfl rfl kr
 obtain ⟨F,G⟩:=G.push 1 2 rfl rfl rfl kr
 have G:=G.turn 1 rfl (r':=RS.hp (rqH (.pointer (some ⟨b,0,none⟩)) room (l ++ [x]))) (fun _ _ _ _ h=>⟨_,_,f,hP,(by rw [Yd];exact h)⟩)
 refine Zac hG G rfl (.tmp rfl .nil) (.one .refl) rfl
end Go.Proofs.YtlkpllemoepamaaGreat
