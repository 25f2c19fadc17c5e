/- Laws and walks. No condition beyond what each says. -/
import Derived.Test.YtlkpllemoepamaaGreatJ1
namespace Go.Proofs.YtlkpllemoepamaaGreat
open Go Go.Gm Tryz
set_option linter.unusedVariables false
set_option linter.unusedSimpArgs false
set_option maxHeartbeats 4000000
set_option maxRecDepth 8000
theorem ZcR (g:Zo) (hs:ZbR g):FnP prog 19 [.agg (Zu g)] (.bool (decide (ZO g))):=by
 refine FnP.mk func19 rfl ntmps19 rfl fun B a w F Z hfr G=>?_
 have hsl:=hs.1.1
 have hso:=hs.2.1
 refine Ya (Zb G (qx 101 r1 qB) Z [2,1] [101,0] (fun _=>rfl) (fun _=>rfl) fun τ a w F G=>?_)
 try dsimp only [RS.sub,SF.sub,CF.sub,csub,Anc.sub,List.map,zCF,Zu,rTx,ZP,ZN,Zn,rOp] at G
 generalize τ 1=v1 at G
 refine Za (Ya (Ya (rZ G (qg 0 101 r1 r1 (qa 101 r1 r1 (qu Yb3 r1 (qf (Za3 .t qi) r1 qz qZ)))) Z [11,2,1] [101,0] fun G=>?_)))
 refine Zc G rfl (fun hc0=>?_) (fun hc0=>?_)
 ·have hg:=Zf5 (h:=g) (by simp at hc0;omega)
  refine Ya (rZ G qB Z [2,1] [101,0] fun G=>(Yh (Zl ?_)))
  refine Zv hfr G rfl rfl rfl (.bool hg)
 have hlong:g.txs.length≤4096:=by simp at hc0;omega
 refine Yf (Za (Ya (Ya (rZ G (qg 0 101 r1 r1 (qa 101 r1 r1 (qu Yb3 r1 (qJ qZ)))) Z [15,14,13,2,1] [101,0] fun G=>Yg ?_))))
 refine Zm (σ:=(Nat)) [1,2,13,14] [0,101] (fun s=>[(15,.pv (.int .i64 (s:Int)))]) (fun s=>[]) (fun s=>s≤g.txs.length∧(∀ k,k<s→Zmi g k)) (fun s=>g.txs.length - s) (0) G ⟨rfl,rfl,rfl,rfl,rfl,tv⟩ ⟨rfl,rfl,tv⟩ ⟨Yx _,fun k hk=>absurd hk (Y3 k)⟩ ?_
 clear G;intro i a w F hC G
 try dsimp only at hC
 obtain ⟨F,G⟩:=G.nM [15,14,13,2,1] [101,0]
 try dsimp only at G
 obtain ⟨hi,hq⟩:=hC
 have hxl:=fun hil:i<g.txs.length=>hs.1.at hil
 have hiw:0<i→IntKind.wrap .i64 ((i:Int) - 1)=((i - 1:Nat):Int):=fun h0=>by rw [Zz ow];omega
 refine Ya (rZ G (qL r2) Z [16,15,14,13,2,1] [101,0] fun G=>Ya ?_)
 refine Zc G rfl (fun hc1=>?_) (fun hc1=>?_)
 ·have hil:i<g.txs.length:=by simp at hc1;omega
  refine Yf (Za (Ya (Yg (Ya (Zb G (qR rr (qy 3 Yb3 r2 (qf (oR true 3 .t) r1 qz (qf (oH [.int .i64 0,.bool false,.slice none 0 0] 102) trivial qz (qO rr (qS 3 102 r2 r1 qZ)))))) Z [15,14,13,4,3,2,1] [102,101,0] (fun _=>rfl) (fun _=>rfl) fun τ a w F G=>?_)))))
  try dsimp only [RS.sub,SF.sub,CF.sub,csub,Anc.sub,List.map,Ze,xL,xM,Nat.reduceAdd,xD,xE,xT,xU,xC,xN,zCF,ldSF,Zu,rTx,ZP,ZN,Zn,rOp] at G
  generalize τ 4=v4 at G
  try simp only [Yd] at G
  refine Za (Ya (ZB G (qR rr (qf (Za3 .t qi) r1 qz (qR rr (qv 0 101 rfl r2 r1 (qw 101 rfl r2 r1 (qm rfl rfl rfl rfl (qk rfl (fun h=>o_sub (.w h) qi) r2 qz (qk rfl (fun h=>o_indexAddr_sl (sz:=3) (.mk Yb3 kr) (by intro x;rfl) (.w h) (.w h) (by rw [hiw (by simpa using h)];omega) (by rw [hiw (by simpa using h)];omega)) r3 qz (qk rfl (fun h=>oG 0 (.w h)) r2 qz (qk rfl (fun h=>oR false 1 (.w h)) r2 qz (qv 0 102 rfl r2 r1 (qw 102 rfl r2 r1 (qk rfl (fun h=>ZbE (.w h) (.w h)) r3 qz (qf (ZH .t .t) r2 qz (qR rr (qk rfl (fun h=>oL true 3 102 .is) r2 r1 (qk rfl (fun h=>oP (Zm6 (Nn g.txs i)) func44 (Args.one (.pagg (.w h)))) r2 qz (qk rfl (fun h=>o_neq (.w h) qi) r2 qz (qf (Zaa .t .t) r2 qz (qR rr (qk rfl (fun h=>oL true 2 101 .is) r2 r1 (qk rfl (fun h=>oL true 3 102 .is) r2 r1 (qk rfl (fun h=>oP (ZqD g (Nn g.txs i) hs.1 (by have:=hxl hil;omega)) func45 (Args.two (.pagg (.w h)) (.pagg (.w h)))) r3 qz (qk rfl (fun h=>o_not (.w h)) r2 qz (qf (Zaa .t .t) r2 qz qZ))))))))))))))))))))))))) Z [44,15,14,13,2,1] [102,101,0] rfl rfl fun a w F G=>?_))
  try dsimp only [List.map,xD,xE,xT,xU,ldSF,Zu,rTx,ZP,ZN,Zn,rOp] at G
  try simp only [Yd] at G
  refine Za (Zc G rfl (fun hc2=>?_) (fun hc2=>?_))
  ·have hbad:¬ Zmi g i:=by
     rintro ⟨g1,g2,g3⟩
     have h9:=hc2
     by_cases hi0:0<i
     · rw [hiw hi0,Yd] at h9
       have:=g1 hi0
       simp [g2,g3] at h9
       omega
     · have hi1:i=0:=by omega
       subst hi1
       simp [g2,g3] at h9
   have hg:=ZhK hil hbad
   refine Ya (rZ G qB Z [15,14,13,2,1] [102,101,0] fun G=>(Yh (Zx (Zl (Zl (Zx (Zl ?_)))))))
   refine Zv hfr G rfl rfl rfl (.bool hg)
  have hgood:Zmi g i:=by
    have h9:=hc2
    by_cases hi0:0<i
    · rw [hiw hi0,Yd] at h9
      simp at h9
      exact ⟨fun _=>by omega,by omega,h9.2⟩
    · have hi1:i=0:=by omega
      subst hi1
      simp at h9
      exact ⟨fun h0=>absurd h0 (Nat.lt_irrefl 0),h9.1,h9.2⟩
  refine Yf (Zj (Za (rZ G (qp r1 (qR rr qZ)) Z [15,14,13,2,1] [102,101,0] fun G=>?_)))
  replace G:=G.ent (i:=15) (s':=.pv (.int .i64 ((i+1:Nat):Int))) rfl (.int (Zd ow))
  obtain ⟨F,G⟩:=G.nM [14,13,2,1,15] [101,0]
  exact ⟨(i+1),F,⟨by omega,(fun k hk=>by rcases YZ (Y5 hk) with h9 | h9;exact hq k h9;rw [h9];exact hgood)⟩,G,by omega⟩
 have hil:i=g.txs.length:=by simp at hc1;omega
 have hall:∀ k,k<g.txs.length→Zmi g k:=by rw [← hil];exact hq
 have hkn:=Zm4 hs.1
 refine Yz (Zh (Zh (Zr (Za (Ya ?_)))))
 replace G:=G.fresh 103 rfl
 refine Zb G (qe 2 101 r1 r1 (qf (ZaM 103 (Znv g hs.1) func46 rfl kr (Args.one (.pagg .t)) pvOne1) r1 r1 (qO rr qZ))) Z [5,2,1] [103,101,0] (fun _=>rfl) (fun _=>rfl) fun τ a w F G=>?_
 try dsimp only [RS.sub,SF.sub,CF.sub,csub,Anc.sub,List.map,xD,xE,xT,xU,ldSF,Zu,rTx,ZP,ZN,Zn,rOp] at G
 generalize τ 47=v47 at G
 replace G:=G.turn 103 rfl (r':=RS.hp (HP.ex fun s:List (GE Int (List Int))×Nat=>HP.and (WrL s.1 g.txs) (Zbv (fun l:List Int=>PV.sl Zn l) (fun _=>True) (fun n:Int=>Value.int .i64 n) s.1 s.2 v47))) (fun _ _ _ _ h=>h)
 obtain ⟨sm,G⟩:=G.open_ex 103 rfl
 obtain ⟨hwm,G⟩:=G.open_and 103 rfl
 obtain ⟨es,ck⟩:=sm
 try dsimp only at hwm G
 replace G:=G.turn 103 rfl (r':=.ob (.val v47) (Zbv (fun l:List Int=>PV.sl Zn l) (fun _=>True) (fun n:Int=>Value.int .i64 n) es ck)) (fun _ _ _ _ h=>h)
 have hgw:=Zs9 hwm
 have hml:=Ztl hwm
 obtain ⟨F,G⟩:=G.nM [5,2,1] [103,101,0]
 refine Za (Ya (Ya (rZ G (qR rr (qf (Zlp 103 underlying83 .is ow) r1 r1 (qg 1 101 r1 r1 (qa 101 r1 r1 (qu Yb5 r1 (qf (o_neq .t .t) r2 qz qZ)))))) Z [53,5,2,1] [103,101,0] fun G=>?_)))
 refine Zc G rfl (fun hc3=>?_) (fun hc3=>?_)
 ·have hg:=Zhy (h:=g) (by simp at hc3;omega)
  refine Ya (rZ G qB Z [5,2,1] [103,101,0] fun G=>(Yh (Zl ?_)))
  refine Zv hfr G rfl rfl rfl (.bool hg)
 have hle:g.orders.length=(Za4 g.txs).length:=by simp at hc3;omega
 refine Yf (Za (Ya (Ya (rZ G (qg 1 101 r1 r1 (qa 101 r1 r1 (qu Yb5 r1 (qJ qZ)))) Z [57,56,55,5,2,1] [103,101,0] fun G=>Yg ?_))))
 refine Zm (σ:=(Nat)) [1,2,5,55,56] [0,101,103] (fun s=>[(57,.pv (.int .i64 (s:Int)))]) (fun s=>[]) (fun s=>s≤g.orders.length∧(∀ k,k<s→Zfz g k)) (fun s=>g.orders.length - s) (0) G ⟨rfl,rfl,rfl,rfl,rfl,rfl,tv⟩ ⟨rfl,rfl,rfl,tv⟩ ⟨Yx _,fun k hk=>absurd hk (Y3 k)⟩ ?_
 clear G;intro i a w F hC G
 try dsimp only at hC
 obtain ⟨F,G⟩:=G.nM [57,56,55,5,2,1] [103,101,0]
 try dsimp only at G
 obtain ⟨hi,hq⟩:=hC
 have hol:=fun hil:i<g.orders.length=>hs.2.at hil
 have hwl:=fun k=>Zen g.txs k
 have hiw:0<i→IntKind.wrap .i64 ((i:Int) - 1)=((i - 1:Nat):Int):=fun h0=>by rw [Zz ow];omega
 refine Ya (rZ G (qL r2) Z [58,57,56,55,5,2,1] [103,101,0] fun G=>Ya ?_)
 refine Zc G rfl (fun hc4=>?_) (fun hc4=>?_)
 ·have hil:i<g.orders.length:=by simp at hc4;omega
  refine Yf (Za (Ya (Yg (Ya (Zb G (qR rr (qy 2 Yb5 r2 (qf (oR true 2 .t) r1 qz (qf (oH [.int .i64 0,.slice none 0 0] 104) trivial qz (qO rr (qS 2 104 r2 r1 qZ)))))) Z [57,56,55,7,6,5,2,1] [104,103,101,0] (fun _=>rfl) (fun _=>rfl) fun τ a w F G=>?_)))))
  try dsimp only [RS.sub,SF.sub,CF.sub,csub,Anc.sub,List.map,Ze,xL,xM,Nat.reduceAdd,xD,xE,xT,xU,xC,xN,zCF,ldSF,Zu,rTx,ZP,ZN,Zn,rOp] at G
  generalize τ 7=v7 at G
  try simp only [Yd] at G
  refine Za (Ya (ZB G (qR rr (qf (Za3 .t qi) r1 qz (qR rr (qv 1 101 rfl r2 r1 (qw 101 rfl r2 r1 (qm rfl rfl rfl rfl (qk rfl (fun h=>o_sub (.w h) qi) r2 qz (qk rfl (fun h=>o_indexAddr_sl (sz:=2) (.mk Yb5 kr) (by intro x;rfl) (.w h) (.w h) (by rw [hiw (by simpa using h)];omega) (by rw [hiw (by simpa using h)];omega)) r3 qz (qk rfl (fun h=>oG 0 (.w h)) r2 qz (qk rfl (fun h=>oR false 1 (.w h)) r2 qz (qv 0 104 rfl r2 r1 (qw 104 rfl r2 r1 (qk rfl (fun h=>ZbE (.w h) (.w h)) r3 qz (qf (ZH .t .t) r2 qz (qR rr (qv 1 104 rfl r2 r1 (qw 104 rfl r2 r1 (qk rfl (fun h=>ZcV Yb0 (.w h)) r2 qz (qk rfl (fun h=>o_eql (.w h) qi) r2 qz (qf (Zaa .t .t) r2 qz (qR rr (qv 1 104 rfl r2 r1 (qw 104 rfl r2 r1 (qm rfl rfl rfl rfl (qv 0 104 rfl r2 r1 (qw 104 rfl r2 r1 (qk rfl (fun h=>Zah (ek:=(fun l:List Int=>PV.sl Zn l)) (z0:=([]:List Int)) 103 underlying83 (Zcj Yb9) kr (fun _ _=>Zq7) (.w h .is) (ZI.int (.w h) rfl)) r3 r1 (qk rfl (fun h=>oP (Zth (Nn g.orders i).txs _ (by have:=hol hil;omega) (by rw [hgw];have:=hwl (Nn g.orders i).key;omega)) func47 (Args.two (.w h) (.w h))) r3 qz (qk rfl (fun h=>o_not (.w h)) r2 qz (qf (Zaa .t .t) r2 qz qZ)))))))))))))))))))))))))))))) Z [91,57,56,55,5,2,1] [104,103,101,0] rfl rfl fun a w F G=>?_))
  try dsimp only [List.map,xD,xE,xT,xU,ldSF,Zu,rTx,ZP,ZN,Zn,rOp] at G
  try simp only [Yd] at G
  refine Za (Zc G rfl (fun hc5=>?_) (fun hc5=>?_))
  ·have hbad:¬ Zfz g i:=by
     rintro ⟨g1,g2,g3⟩
     have h9:=hc5
     rw [hgw] at h9
     have g4:(Nn g.orders i).txs.length≠0:=fun e=>g2 (YR e)
     by_cases hi0:0<i
     · rw [hiw hi0,Yd] at h9
       have:=g1 hi0
       simp [g2,g3] at h9
       omega
     · have hi1:i=0:=by omega
       subst hi1
       simp [g2,g3] at h9
   have hg:=Zf2 hil hbad
   refine Ya (rZ G qB Z [57,56,55,5,2,1] [104,103,101,0] fun G=>(Yh (Zx (Zl (Zl (Zx (Zl ?_)))))))
   refine Zv hfr G rfl rfl rfl (.bool hg)
  have hgood:Zfz g i:=by
    have h9:=hc5
    rw [hgw] at h9
    by_cases hi0:0<i
    · rw [hiw hi0,Yd] at h9
      simp at h9
      exact ⟨fun _=>by omega,h9.1.2,h9.2⟩
    · have hi1:i=0:=by omega
      subst hi1
      simp at h9
      exact ⟨fun h0=>absurd h0 (Nat.lt_irrefl 0),h9.1,h9.2⟩
  refine Yf (Zj (Za (rZ G (qp r1 (qR rr qZ)) Z [57,56,55,5,2,1] [104,103,101,0] fun G=>?_)))
  replace G:=G.ent (i:=57) (s':=.pv (.int .i64 ((i+1:Nat):Int))) rfl (.int (Zd ow))
  obtain ⟨F,G⟩:=G.nM [56,55,5,2,1,57] [103,101,0]
  exact ⟨(i+1),F,⟨by omega,(fun k hk=>by rcases YZ (Y5 hk) with h9 | h9;exact hq k h9;rw [h9];exact hgood)⟩,G,by omega⟩
 have hil:i=g.orders.length:=by simp at hc4;omega
 have hg:=Zjm hlong hall ow (by rw [← hil];exact hq)
 refine Yz (Zh (Zh (Zr (Za (Ya (rZ G qB Z [2] [103,101,0] fun G=>Yh ?_))))))
 refine Zv hfr G rfl rfl rfl (.bool hg)
theorem PVs.lenAt {α:Type} {R:α→List PV} {l:List α} {v:Value} {w:World} {y:Ys} (h:(PV.sl R l).p v w y):l.length≤9223372036854775807:=by
 obtain ⟨_,cap,_,h1,h2,_⟩:=h
 unfold maxLen at h2
 omega
theorem Sat.lenHist {B:Zbj} {E:En} {a:Act} {w:World} {F:Fp} (h:Sat B E a w F) {i:Nat} {u:Zo} (hl:Go.Gm.look E.s i=some (SF.pv (PV.agg (Zu u)))):u.txs.length≤9223372036854775807∧u.orders.length≤9223372036854775807:=by
 obtain ⟨vs,_,hp⟩:=h.s i _ hl
 match vs,hp with
 | [x,y],hp=>exact ⟨PVs.lenAt hp.1.2,PVs.lenAt hp.2.1.2⟩
def Zs1 (l:List TxD):Prop:=l.length≤1000000 ∧ ∀ t ∈ l,t.ops.length≤1000000
def ZqV (l:List OrdD):Prop:=l.length≤1000000 ∧ ∀ t ∈ l,t.txs.length≤1000000
structure DOk (d:ZgE):Prop where
 was:Zs1 d.was
 now:Zs1 d.now
 old:ZqV d.old
 new:ZqV d.new
def inv (d:ZgE):ZgE:=⟨d.now,d.was,d.new,d.old⟩
def ZaC (h:Zo):Prop:=h.txs.length≤12∧h.orders.length≤24∧(∀ j,j<h.txs.length→(Nn h.txs j).ops.length≤24) ∧ ∀ j,j<h.orders.length→(Nn h.orders j).txs.length≤24
instance (h:Zo):Decidable (ZaC h):=by unfold ZaC;exact inferInstance
def Zkq (d:ZgE):Prop:=ZaC ⟨d.was,d.old⟩∧ZaC ⟨d.now,d.new⟩
instance (d:ZgE):Decidable (Zkq d):=by unfold Zkq;exact inferInstance
theorem ZsJ {α:Type} [Inhabited α] {q:List α} {x:α} (h:x ∈ q):∃ j,j<q.length∧Nn q j=x:=by
 obtain ⟨j,hj,e⟩:=YH h
 exact ⟨j,hj,by rw [nth_eq hj];exact e⟩
theorem Zkq.ok {d:ZgE} (h:Zkq d):DOk d:=by
 obtain ⟨⟨h1,h2,h3,h4⟩,h5,h6,h7,h8⟩:=h
 dsimp only at h1 h2 h3 h4 h5 h6 h7 h8
 refine ⟨⟨by omega,fun t ht=>?_⟩,⟨by omega,fun t ht=>?_⟩,⟨by omega,fun t ht=>?_⟩,⟨by omega,fun t ht=>?_⟩⟩ <;> obtain ⟨j,hj,rfl⟩:=ZsJ ht
 ·have:=h3 j hj;omega
 ·have:=h7 j hj;omega
 ·have:=h4 j hj;omega
 ·have:=h8 j hj;omega
theorem ZkT (u:Zo):FnP prog 11 [.agg (Zu u)] (.bool (decide (ZaC u))):=by
 refine FnP.mk func11 rfl ntmps11 rfl fun B a w F Z hfr G=>?_
 obtain ⟨hxl,hyl⟩:=Sat.lenHist G (i:=0) rfl
 refine Ya (Zb G (qx 101 r1 qB) Z [2,1] [101,0] (fun _=>rfl) (fun _=>rfl) fun τ a w F G=>?_)
 try dsimp only [RS.sub,SF.sub,CF.sub,csub,Anc.sub,List.map,zCF] at G
 generalize τ 1=v1 at G
 refine Za (Ya (Ya (rZ G (qg 0 101 r1 r1 (qa 101 r1 r1 (qu Yb3 r1 (qf (Za3 .t qi) r1 qz (qR rr (qv 1 101 rfl r2 r1 (qw 101 rfl r2 r1 (qk rfl (fun h=>ZcV Yb5 (.w h)) r2 qz (qk rfl (fun h=>Za3 (.w h) qi) r2 qz (qf (Zaa .t .t) r2 qz qZ)))))))))) Z [16,2,1] [101,0] fun G=>?_)))
 refine Zc G rfl (fun hc0=>?_) (fun hc0=>?_)
 ·have hg:false=decide (ZaC u):=by
    rw [Yan,YA]
    rintro ⟨g1,g2,g3,g4⟩
    simp at hc0;omega
  refine Ya (rZ G qB Z [2,1] [101,0] fun G=>(Yh (Zl ?_)))
  refine Zv hfr G rfl rfl rfl (.bool hg)
 have hb:u.txs.length≤12∧u.orders.length≤24:=by simp at hc0;omega
 refine Yf (Za (Ya (Ya (rZ G (qg 0 101 r1 r1 (qa 101 r1 r1 (qu Yb3 r1 (qJ qZ)))) Z [20,19,18,2,1] [101,0] fun G=>Yg ?_))))
 obtain ⟨F,G⟩:=G.nM [20,19,18,1] [101,0]
 refine Za9 (σ:=Nat) (fun s=>(⟨[(1,.pv (.is v1)),(18,.pv (.sl rTx u.txs)),(19,.pv (.int .i64 u.txs.length)),(20,.pv (.int .i64 s))],[(0,frame B),(101,.pt (.val v1) 25 [.pv (.sl rTx u.txs),.pv (.sl ZP u.orders)])]⟩:En)) (fun s=>s≤u.txs.length ∧ ∀ j,j<s→(Nn u.txs j).ops.length≤24) (fun s=>u.txs.length - s) 0 G ⟨Yx _,fun j hj=>absurd hj (Y3 j)⟩ ?_
 clear G;intro i a w F hC G
 try dsimp only at hC
 try dsimp only at G
 obtain ⟨hi,hq⟩:=hC
 refine Ya (rZ G (qL r2) Z [21,20,19,18,1] [101,0] fun G=>Ya ?_)
 refine Zc G rfl (fun hc1=>?_) (fun hc1=>?_)
 ·have hil:i<u.txs.length:=by simp at hc1;omega
  refine Yf (Za (Ya (Yg (Ya (Zb G (qy 3 Yb3 r2 (qf (oR true 3 .t) r1 qz (qf (oH [.int .i64 0,.bool false,.slice none 0 0] 102) trivial qz (qS 3 102 r2 r1 qZ)))) Z [20,19,18,4,1] [102,101,0] (fun _=>rfl) (fun _=>rfl) fun τ a w F G=>?_)))))
  try dsimp only [RS.sub,SF.sub,CF.sub,csub,Anc.sub,List.map,Ze,xL,xM,Nat.reduceAdd,xD,xE,xT,xU,xC,xN,zCF,ldSF] at G
  generalize τ 4=v4 at G
  refine Za (Ya (rZ G (qg 2 102 r1 r1 (qa 102 r1 r1 (qu Yb2 r1 (qf (Za3 .t qi) r1 qz qZ)))) Z [27,20,19,18,1] [101,0] fun G=>?_))
  refine Zc G rfl (fun hc2=>?_) (fun hc2=>?_)
  ·have hg:false=decide (ZaC u):=by
     rw [Yan,YA]
     rintro ⟨g1,g2,g3,g4⟩
     have:=g3 i hil;rw [Yd] at hc2;simp at hc2;omega
   refine Ya (rZ G qB Z [20,19,18,2,1] [101,0] fun G=>(Yh (Zx (Zl (Zl (Zx (Zl ?_)))))))
   refine Zv hfr G rfl rfl rfl (.bool hg)
  have hqi:(Nn u.txs i).ops.length≤24:=by rw [Yd] at hc2;simp at hc2;omega
  refine Yf (Zj (Za (rZ G (qp r1 (qR rr qZ)) Z [20,19,18,1] [101,0] fun G=>?_)))
  replace G:=G.ent (i:=20) (s':=.pv (.int .i64 ((i+1:Nat):Int))) rfl (.int (Zd ow))
  obtain ⟨F,G⟩:=G.nM [20,19,18,1] [101,0]
  exact ⟨i+1,F,⟨by omega,fun j hj=>by rcases YZ (Y5 hj) with h | h;exact hq j h;rw [h];exact hqi⟩,G,by omega⟩
 have hT:∀ j,j<u.txs.length→(Nn u.txs j).ops.length≤24:=fun j hj=>hq j (by simp at hc1;omega)
 clear hq hi
 refine Yz (Zh (Zh (Zr (Za (Ya (Ya (rZ G (qg 1 101 r1 r1 (qa 101 r1 r1 (qu Yb5 r1 (qJ qZ)))) Z [32,31,30] [0] fun G=>Yg ?_)))))))
 obtain ⟨F,G⟩:=G.nM [32,31,30] [0]
 refine Za9 (σ:=Nat) (fun s=>(⟨[(30,.pv (.sl ZP u.orders)),(31,.pv (.int .i64 u.orders.length)),(32,.pv (.int .i64 s))],[(0,frame B)]⟩:En)) (fun s=>s≤u.orders.length ∧ ∀ j,j<s→(Nn u.orders j).txs.length≤24) (fun s=>u.orders.length - s) 0 G ⟨Yx _,fun j hj=>absurd hj (Y3 j)⟩ ?_
 clear G;intro i a w F hC G
 try dsimp only at hC
 try dsimp only at G
 obtain ⟨hi,hq⟩:=hC
 refine Ya (rZ G (qL r2) Z [33,32,31,30] [0] fun G=>Ya ?_)
 refine Zc G rfl (fun hc3=>?_) (fun hc3=>?_)
 ·have hil:i<u.orders.length:=by simp at hc3;omega
  refine Yf (Za (Ya (Yg (Ya (Zb G (qy 2 Yb5 r2 (qf (oR true 2 .t) r1 qz (qf (oH [.int .i64 0,.slice none 0 0] 103) trivial qz (qS 2 103 r2 r1 qZ)))) Z [32,31,30,6] [103,0] (fun _=>rfl) (fun _=>rfl) fun τ a w F G=>?_)))))
  try dsimp only [RS.sub,SF.sub,CF.sub,csub,Anc.sub,List.map,Ze,xL,xM,Nat.reduceAdd,xD,xE,xT,xU,xC,xN,zCF,ldSF] at G
  generalize τ 6=v6 at G
  refine Za (Ya (rZ G (qg 1 103 r1 r1 (qa 103 r1 r1 (qu Yb0 r1 (qf (Za3 .t qi) r1 qz qZ)))) Z [39,32,31,30] [0] fun G=>?_))
  refine Zc G rfl (fun hc4=>?_) (fun hc4=>?_)
  ·have hg:false=decide (ZaC u):=by
     rw [Yan,YA]
     rintro ⟨g1,g2,g3,g4⟩
     have:=g4 i hil;rw [Yd] at hc4;simp at hc4;omega
   refine Ya (rZ G qB Z [32,31,30,2] [0] fun G=>(Yh (Zx (Zl (Zl (Zx (Zl ?_)))))))
   refine Zv hfr G rfl rfl rfl (.bool hg)
  have hqi:(Nn u.orders i).txs.length≤24:=by rw [Yd] at hc4;simp at hc4;omega
  refine Yf (Zj (Za (rZ G (qp r1 (qR rr qZ)) Z [32,31,30] [0] fun G=>?_)))
  replace G:=G.ent (i:=32) (s':=.pv (.int .i64 ((i+1:Nat):Int))) rfl (.int (Zd ow))
  obtain ⟨F,G⟩:=G.nM [32,31,30] [0]
  exact ⟨i+1,F,⟨by omega,fun j hj=>by rcases YZ (Y5 hj) with h | h;exact hq j h;rw [h];exact hqi⟩,G,by omega⟩
 have hO:∀ j,j<u.orders.length→(Nn u.orders j).txs.length≤24:=fun j hj=>hq j (by simp at hc3;omega)
 have hg:true=decide (ZaC u):=by rw [Yan,Yp];exact ⟨hb.1,hb.2,hT,hO⟩
 refine Yz (Zh (Zh (Zr (Za (Ya (rZ G qB Z [2] [0] fun G=>Yh ?_))))))
 refine Zv hfr G rfl rfl rfl (.bool hg)
instance (h:Zo):Decidable (ZaC h):=by unfold ZaC;exact inferInstance
theorem ZaC.small {h:Zo} (hl:ZaC h):ZbR h:=by
 obtain ⟨h1,h2,h3,h4⟩:=hl
 refine ⟨⟨by omega,fun t ht=>?_⟩,by omega,fun o ho=>?_⟩
 ·obtain ⟨j,hj,e⟩:=YH ht
  have:=h3 j hj
  rw [nth_eq hj,e] at this;omega
 ·obtain ⟨j,hj,e⟩:=YH ho
  have:=h4 j hj
  rw [nth_eq hj,e] at this;omega
theorem Zej {P:Program} {w:World} {d:Nat} {e:TypeId} (he:P.underlying e=some (.int .i64)) {l m:List Int} : ∀ (is:List Nat),(∀ i ∈ is,i<l.length∧i<m.length)→(Op.eqItems (d+1) e 1 (l.map fun n=>Value.int .i64 n).toArray (m.map fun n=>Value.int .i64 n).toArray is).run P w = .ok (is.all fun i=>decide (l[i]? = m[i]?)) w
 | [],_=>by simp [Op.eqItems]
 | i :: is,h=>by
  have hag:P.aggB e=some false:=by unfold Program.aggB;rw [he]
  obtain ⟨h1,h2⟩:=h i (by simp)
  have p1:(part e (l.map fun n=>Value.int .i64 n).toArray (i*1)).run P w = .ok (.int .i64 l[i]) w:=by simp [part,run_isAgg hag,h1]
  have p2:(part e (m.map fun n=>Value.int .i64 n).toArray (i*1)).run P w = .ok (.int .i64 m[i]) w:=by simp [part,run_isAgg hag,h2]
  have p3:(Op.equalIn (d+1) e (.int .i64 l[i]) (.int .i64 m[i])).run P w = .ok (l[i] == m[i]) w:=run_equalIn_int w d e .i64 _ _ _ he
  have ih:=Zej (P:=P) (w:=w) (d:=d) he is (fun j hj=>h j (YE _ hj))
  simp only [Op.eqItems,YB,p1,p2,p3,Yn]
  rw [List.all_cons,Yao h1,Yao h2]
  by_cases hab:l[i] = m[i]
  ·simp [hab,ih]
  ·simp [hab]
theorem Zn2 {l m:List Int} {n:Nat} (hl:l.length=n) (hm:m.length=n):((List.range n).all fun i=>decide (l[i]? = m[i]?))=decide (l=m):=by
 rw [Ya4,Yat,Yp]
 constructor
 ·intro h
  apply List.ext_getElem?
  intro i
  by_cases hi:i<n
  ·simpa using h i (Ya0.2 hi)
  ·rw [YbB ow,YbB ow]
 ·rintro rfl i _
  simp
theorem Zpw {P:Program} {κ:Type} [DecidableEq κ] {kt et:TypeId} {enc:κ→List Int} {n:Nat} (hl:∀ k,(enc k).length=n) (hi:∀ a b,enc a=enc b→a=b) (hu:P.underlying kt=some (.array n et)) (he:P.underlying et=some (.int .i64)) (hc:P.cellsOf et=1):Zmm P kt (fun k=>∀ x ∈ enc k,inR .i64 x) (kvS enc) where
 check:=fun b k w _=>by
  obtain ⟨ti,hti⟩:∃ i,P.info? et=some i:=info_of_underlying he
  have hag:P.aggB et=some false:=by unfold Program.aggB;rw [he]
  unfold kvS
  rw [show (10000:Nat)=9998+1+1 from rfl,Instr.checkKey]
  simp only [YB,Yo hu,Yn]
  simp only [Std.Legacy.Range.forIn_eq_forIn_range',Std.Legacy.Range.size,YbS,Nat.add_one_sub_one,Nat.div_one]
  have each:∀ i ∈ List.range' 0 n,i<(enc k).length:=by intro i h;rw [hl];simp [List.mem_range'] at h;omega
  generalize List.range' 0 n=is at each
  induction is with
  | nil=>simp
  | cons j is ih=>
   have h1:=each j (by simp)
   have p1:(part et ((enc k).map fun n=>Value.int .i64 n).toArray (j*1)).run P w = .ok (.int .i64 (enc k)[j]) w:=by simp [part,run_isAgg hag,h1]
   have p2:(Instr.checkKey b (9998+1) et (.int .i64 (enc k)[j])).run P w = .ok () w:=Go.MapKept.run_checkKey he (by simp [Go.MapKept.IsKey]) b 9998
   simp only [List.forIn_cons,YB,run_sizeOf w hti,hc,Yn,p1,p2,YI]
   exact ih (fun y hy=>each y (by simp [hy]))
 find:=fun es k w hok hks=>by
  obtain ⟨ti,hti⟩:∃ i,P.info? et=some i:=info_of_underlying he
  rw [run_findKey_eq (P:=P) (w:=w) (k:=kt) (by rw [hu]) (kvS enc k) (es.map (rEnc (kvS enc)))]
  have key:∀ (es:List (GE κ Value)) (j:Nat),(Instr.findAsking kt (kvS enc k) (es.map (rEnc (kvS enc))) j).run P w = .ok ((gIdx k es).map fun i=>(i+j,(gGet k es).getD undef)) w:=by
   intro es
   induction es with
   | nil=>intro j;simp [Instr.findAsking,gIdx]
   | cons e es ih=>
    intro j
    have hq:(Op.equal kt (kvS enc k) (kvS enc e.key)).run P w = .ok (decide (enc k=enc e.key)) w:=by
     unfold Op.equal Op.maxDepth kvS
     rw [show (10000:Nat)=9998+1+1 from rfl,run_equalIn_array w (9998+1) _ _ hu hti,hc,Zej he _ (fun i h=>by rw [hl,hl];simpa using h),Zn2 (hl _) (hl _)]
    rw [YT]
    unfold Instr.findAsking
    have ih':=ih (j+1)
    by_cases h:k=e.key
    ·have hek:enc k=enc e.key:=by rw [h]
     simp only [rEnc,YB,hq,hek,decide_true,Yn,Yq,YI]
     simp [gIdx,gGet,h]
    ·have hek:¬ enc k=enc e.key:=fun h'=>h (hi _ _ h')
     simp only [rEnc,YB,hq,YF hek,Yn,Ybj,Ym]
     rw [show (es.map fun e=>rEnc (kvS enc) e)=es.map (rEnc (kvS enc)) from rfl] at *
     rw [ih']
     simp only [gIdx,gGet,Yb h]
     cases hm:gIdx k es with
     | none=>rfl
     | some i=>simp;omega
  have:=key es 0
  simpa using this
 same:=fun k=>Zfa (enc k) 9999
def Zmf {κ:Type} [DecidableEq κ] (A:List (κ×Int)) (k:κ):Int:=A.foldl (fun x z=>if k=z.1 then z.2 else x) 0
theorem ZiA {κ:Type} [DecidableEq κ] {A:List (κ×Int)} {z:κ×Int} {k:κ} : Zmf (A ++ [z]) k=if k=z.1 then z.2 else Zmf A k:=by unfold Zmf;rw [Ybp];rfl
theorem ZqC {κ:Type} [DecidableEq κ] {k:κ} (A:List (κ×Int)) (hA:∀ z ∈ A,z.2=1):0≤Zmf A k∧Zmf A k≤1:=by
 have key:∀ (A:List (κ×Int)) (x:Int),(∀ z ∈ A,z.2=1)→0≤x∧x≤1→0≤A.foldl (fun x z=>if k=z.1 then z.2 else x) x∧A.foldl (fun x z=>if k=z.1 then z.2 else x) x≤1:=by
  intro A
  induction A with
  | nil=>intro x _ h;exact h
  | cons z A ih=>
   intro x hz hx
   rw [Yal]
   refine ih _ (fun y hy=>hz y (YE _ hy)) ?_
   have:=hz z (by simp)
   split <;> omega
 exact key A 0 hA ow
structure Zds where
 fst:Int
 snd:Int
 deriving DecidableEq,Inhabited
def Zeq (k:Zds):List Int:=[k.fst,k.snd]
def Zag (e:Zf):List Int:=[e.src,e.dst,e.kind,e.key]
def Zda (l:List TxD):List (Int×Int):=(l.filter TxD.done).map fun t=>(t.id,1)
def ZbG (id:Int) (l:List OpD):List Zds:=(l.filter fun o=>!o.read).map fun o=>⟨id,o.key⟩
def lastK (l:List TxD):List Zds:=l.flatMap fun t=>if t.done=true then ZbG t.id t.ops else []
def atI (l:List Int) (j:Nat):Int:=if j=0 then 0 else Nn l (j - 1)
def nxO (o:OrdD) (j:Nat):List (Zds×Int):=(List.range j).map fun i=>(⟨o.key,atI o.txs i⟩,Nn o.txs i)
def nxA (l:List OrdD):List (Zds×Int):=l.flatMap fun o=>nxO o o.txs.length
theorem Zfy {l:List TxD} {i:Nat} (hi:i<l.length):Zda (l.take (i+1))=Zda (l.take i)++if (Nn l i).done=true then [((Nn l i).id,1)] else []:=by
 unfold Zda
 rw [Zs hi,Yae,YJ]
 cases hd:(Nn l i).done <;> simp [hd]
theorem ZgP {l:List TxD} {i:Nat} (hi:i<l.length):lastK (l.take (i+1))=lastK (l.take i)++if (Nn l i).done=true then ZbG (Nn l i).id (Nn l i).ops else []:=by
 unfold lastK
 rw [Zs hi,YQ]
 simp
theorem ZfA {id:Int} {l:List OpD} {j:Nat} (hj:j<l.length):ZbG id (l.take (j+1))=ZbG id (l.take j)++if (Nn l j).read=true then [] else [⟨id,(Nn l j).key⟩]:=by
 unfold ZbG
 rw [Zs hj,Yae,YJ]
 cases hd:(Nn l j).read <;> simp [hd]
theorem Zgd (id:Int) (l:List OpD):(ZbG id l).length≤l.length:=by unfold ZbG;rw [YC];exact Y8 _ _
theorem ZmL {l:List TxD} (h:ZaN l) (i:Nat):(lastK (l.take i)).length≤1000*i:=by
 have key:∀ l:List TxD,(∀ t ∈ l,t.ops.length≤1000)→(lastK l).length≤1000*l.length:=by
  intro l
  induction l with
  | nil=>intro _;simp [lastK]
  | cons t l ih=>
   intro h
   have h1:=ih fun x hx=>h x (by simp [hx])
   have h2:=h t (by simp)
   have h3:=Zgd t.id t.ops
   unfold lastK at h1 ⊢
   rw [YV,Yc,Yk]
   split
   ·omega
   ·simp only [Yv];omega
 have h1:=key (l.take i) fun t ht=>h.2 t (Yap ht)
 have h2:(l.take i).length≤i:=by rw [Yj];omega
 exact Y6 h1 (Ybh _ h2)
theorem Zo8 {o:OrdD} {j:Nat} : nxO o (j+1)=nxO o j ++ [(⟨o.key,atI o.txs j⟩,Nn o.txs j)]:=by unfold nxO;rw [List.range_succ,YJ];rfl
theorem ZpM {l:List OrdD} {i:Nat} (hi:i<l.length):nxA (l.take (i+1))=nxA (l.take i)++nxO (Nn l i) (Nn l i).txs.length:=by
 unfold nxA
 rw [Zs hi,YQ]
 simp
def Zml {κ:Type} [DecidableEq κ] (es:List (GE κ Int)) (A:List (κ×Int)):Prop:=∀ k,(gGet k es).getD 0=Zmf A k
def ZoP {κ:Type} [DecidableEq κ] (es:List (GE κ Int)) (R:List κ):Prop:=∀ k,(gGet k es).getD 0=(R.count k:Int)
theorem ZnE {κ:Type} [DecidableEq κ] {es:List (GE κ Int)} {A:List (κ×Int)} {ck:Nat} {k:κ} {x:Int} (h:Zml es A):Zml (gPut k x (es,ck)).1 (A ++ [(k,x)]):=fun k'=>by
 rw [ZcQ,ZiA,← h k']
 split <;> rfl
theorem ZrC {κ:Type} [DecidableEq κ] {es:List (GE κ Int)} {R:List κ} {ck:Nat} {k:κ} (h:ZoP es R) (hl:R.length≤100000000):ZoP (gSet k (IntKind.wrap .i64 ((gGet k es).getD 0+1)) (gEns 0 k (es,ck)).1) (R ++ [k]):=fun k'=>by
 have hc:R.count k≤R.length:=List.count_le_length
 rw [Zc1,h k,Zz ow,YbD]
 by_cases e:k' = k
 ·subst e;rw [Ye rfl];simp
 ·rw [Yb e,h k'];simp [List.count_cons,Ne.symm e]
def ZiN (g:Zo) (id:Int):Int:=Zmf (Zda g.txs) id
def Zln (g:Zo) (id k:Int):Int:=((lastK g.txs).count ⟨id,k⟩:Int)
def nxI (g:Zo) (k x:Int):Int:=Zmf (nxA g.orders) ⟨k,x⟩
def Zq2 (g:Zo) (t:TxD) (o:OpD):Bool:=decide (o.tx=t.id) || (!decide (o.tx=0) && (decide (ZiN g o.tx=0) || !decide (Zln g o.tx o.key=o.nth)))
def rdA (t:TxD) (o:OpD):List Zf:=if o.tx=0 then [] else [⟨o.tx,t.id,2,o.key⟩]
def rdB (g:Zo) (t:TxD) (o:OpD):List Zf:=if nxI g o.key o.tx≠0∧nxI g o.key o.tx≠t.id then [⟨t.id,nxI g o.key o.tx,3,o.key⟩] else []
def rdO (g:Zo) (t:TxD) (o:OpD):List Zf:=if Zq2 g t o=true then [] else rdA t o++rdB g t o
theorem Zsi (g:Zo) (t:TxD) (o:OpD):(rdO g t o).length≤2:=by
 unfold rdO rdA rdB
 split
 ·simp
 ·split <;> split <;> simp
def rdT (p:Int→Bool) (g:Zo) (t:TxD) (l:List OpD):List Zf:=l.flatMap fun o=>if (t.done && (o.read && p o.key))=true then rdO g t o else []
def rdH (p:Int→Bool) (g:Zo) (l:List TxD):List Zf:=l.flatMap fun t=>rdT p g t t.ops
theorem Zj9 {p:Int→Bool} {g:Zo} {t:TxD} {l:List OpD} {j:Nat} (hj:j<l.length):rdT p g t (l.take (j+1))=rdT p g t (l.take j)++if (t.done && ((Nn l j).read && p (Nn l j).key))=true then rdO g t (Nn l j) else []:=by
 unfold rdT
 rw [Zs hj,YQ]
 simp
theorem ZpY {p:Int→Bool} {g:Zo} {l:List TxD} {i:Nat} (hi:i<l.length):rdH p g (l.take (i+1))=rdH p g (l.take i)++rdT p g (Nn l i) (Nn l i).ops:=by
 unfold rdH
 rw [Zs hi,YQ]
 simp
theorem Zoj (p:Int→Bool) (g:Zo) (t:TxD) (l:List OpD):(rdT p g t l).length≤2*l.length:=by
 induction l with
 | nil=>simp [rdT]
 | cons o l ih=>
  have h1:=Zsi g t o
  unfold rdT at ih ⊢
  rw [YV,Yc,Yk]
  split
  ·omega
  ·simp only [Yv];omega
theorem Zmy {p:Int→Bool} {g:Zo} {l:List TxD} (h:ZaN l) (i:Nat):(rdH p g (l.take i)).length≤2000*i:=by
 have key:∀ l:List TxD,(∀ t ∈ l,t.ops.length≤1000)→(rdH p g l).length≤2000*l.length:=by
  intro l
  induction l with
  | nil=>intro _;simp [rdH]
  | cons t l ih=>
   intro h
   have h1:=ih fun x hx=>h x (by simp [hx])
   have h2:=h t (by simp)
   have h3:=Zoj p g t t.ops
   unfold rdH at h1 ⊢
   rw [YV,Yc,Yk]
   omega
 have h1:=key (l.take i) fun t ht=>h.2 t (Yap ht)
 have h2:(l.take i).length≤i:=by rw [Yj];omega
 exact Y6 h1 (Ybh _ h2)
def wwO (o:OrdD) (j:Nat):List (Zf×Int):=(List.range j).map fun i=>(⟨Nn o.txs i,Nn o.txs (i+1),1,o.key⟩,1)
def wwA (p:Int→Bool) (l:List OrdD):List (Zf×Int):=l.flatMap fun o=>if p o.key=true then wwO o (o.txs.length - 1) else []
theorem Zpi {o:OrdD} {j:Nat} : wwO o (j+1)=wwO o j ++ [(⟨Nn o.txs j,Nn o.txs (j+1),1,o.key⟩,1)]:=by unfold wwO;rw [List.range_succ,YJ];rfl
theorem Zp1 {p:Int→Bool} {l:List OrdD} {i:Nat} (hi:i<l.length):wwA p (l.take (i+1))=wwA p (l.take i)++if p (Nn l i).key=true then wwO (Nn l i) ((Nn l i).txs.length - 1) else []:=by
 unfold wwA
 rw [Zs hi,YQ]
 simp
theorem ZmV {κ ν:Type} [DecidableEq κ] (k:κ) (v:ν):∀ es:List (GE κ ν),(gSet k v es).length=es.length
 | []=>rfl
 | e :: es=>by
  unfold gSet
  split
  ·rfl
  ·rw [Yk,Yk,ZmV k v es]
theorem Ztd {κ ν:Type} [DecidableEq κ] (k:κ) (v:ν) (s:List (GE κ ν)×Nat):(gPut k v s).1.length≤s.1.length+1:=by
 unfold gPut
 split
 ·show (gSet k v s.1).length≤_
  rw [ZmV];omega
 ·show (s.1 ++ [_]).length≤_
  rw [Yc];simp
theorem Ztr {κ ν:Type} [DecidableEq κ] (z:ν) (k:κ) (s:List (GE κ ν)×Nat):(gEns z k s).1.length≤s.1.length+1:=by
 unfold gEns
 split
 ·omega
 ·show (s.1 ++ [_]).length≤_
  rw [Yc];simp
structure Zgj (es:List (GE Zf Int)) (A:List (Zf×Int)) (R:List Zf):Prop where
 val:∀ e,(gGet e es).getD 0=Zmf A e+(R.count e:Int)
 one:∀ z ∈ A,z.2=1
 key:∀ e,(gGet e es).isSome=true ↔ (e ∈ A.map Prod.fst∨e ∈ R)
 len:es.length≤A.length+R.length
theorem ZkH:Zgj [] [] []:=⟨fun _=>rfl,by simp,fun e=>by simp [gGet],Yx _⟩
theorem ZrS {es:List (GE Zf Int)} {A:List (Zf×Int)} {ck:Nat} {e:Zf} (h:Zgj es A []):Zgj (gPut e 1 (es,ck)).1 (A ++ [(e,1)]) []:=⟨fun k=>by
 have:=h.val k
 rw [ZcQ,ZiA]
 split
 ·rfl
 ·rw [this],fun z hz=>by
 rcases Yy.1 hz with h1 | h1
 ·exact h.one z h1
 ·simp at h1;rw [h1],fun k=>by
 rw [ZcQ,YJ,Yy]
 by_cases hk:k=e
 ·rw [Ye hk];simp [hk]
 ·rw [Yb hk,h.key k];simp [hk],by
 have h1:=h.len
 have h2:=Ztd e (1:Int) (es,ck)
 rw [Yc]
 simp only [Yk,Yv] at h1 h2 ⊢
 omega⟩
theorem ZjQ {es:List (GE Zf Int)} {A:List (Zf×Int)} {R:List Zf} {ck:Nat} {e:Zf} (h:Zgj es A R) (hl:R.length≤100000000):Zgj (gSet e (IntKind.wrap .i64 ((gGet e es).getD 0+1)) (gEns 0 e (es,ck)).1) A (R ++ [e]):=⟨fun k=>by
 have hc:R.count e≤R.length:=List.count_le_length
 have h1:=ZqC (k:=e) A h.one
 rw [Zc1,h.val e,Zz ow,YbD]
 by_cases hk:k=e
 ·subst hk;rw [Ye rfl];simp;omega
 ·rw [Yb hk,h.val k];simp [List.count_cons,Ne.symm hk],h.one,fun k=>by
 rw [Zc1,Yy]
 by_cases hk:k=e
 ·rw [Ye hk];simp [hk]
 ·rw [Yb hk,h.key k];simp [hk],by
 have h1:=h.len
 have h2:=Ztr (0:Int) e (es,ck)
 rw [ZmV,Yc]
 simp only [Yk,Yv] at h1 h2 ⊢
 omega⟩
structure FS where
 mA:Value
 mB:Value
 mC:Value
 eA:List (GE Int Int)
 kA:Nat
 eB:List (GE Zds Int)
 kB:Nat
 eC:List (GE Zds Int)
 kC:Nat
structure Zt8 (g:Zo) (s:FS):Prop where
 dn:Zml s.eA (Zda g.txs)
 la:ZoP s.eB (lastK g.txs)
 nx:Zml s.eC (nxA g.orders)
theorem Zgc:Zmm prog 250 (fun k=>∀ x ∈ Zeq k,inR .i64 x) (kvS Zeq):=Zpw (et:=3) (n:=2) (fun _=>rfl) (fun a b h=>by cases a;cases b;simpa [Zeq] using h) kr kr kr
theorem ZcF:Zmm prog 42 (fun k=>∀ x ∈ Zag k,inR .i64 x) (kvS Zag):=Zdr (n:=4) (fun _=>rfl) (fun a b h=>by cases a;cases b;simpa [Zag] using h) kr
def Zq1 (g:Zo) (s:FS) (v:Value):List RS:=[.pt (.val v) 249 [.pv (.sl rTx g.txs),.pv (.sl ZP g.orders),.pv (.is s.mA),.pv (.is s.mB),.pv (.is s.mC)],.ob (.val s.mA) (Zbv (fun n:Int=>PV.int .i64 n) (fun _=>True) (fun n:Int=>Value.int .i64 n) s.eA s.kA),.ob (.val s.mB) (Zbv (fun n:Int=>PV.int .i64 n) (fun k=>∀ x ∈ Zeq k,inR .i64 x) (kvS Zeq) s.eB s.kB),.ob (.val s.mC) (Zbv (fun n:Int=>PV.int .i64 n) (fun k=>∀ x ∈ Zeq k,inR .i64 x) (kvS Zeq) s.eC s.kC)]
def Zmh (g:Zo) (v:Value):HP:=.ex fun s:FS=>.and (Zt8 g s) (.star (Zq1 g s v))
def Zfh (A:List (Zf×Int)) (R:List Zf) (v:Value):HP:=.ex fun s:List (GE Zf Int)×Nat=>.and (Zgj s.1 A R) (Zbv (fun n:Int=>PV.int .i64 n) (fun k=>∀ x ∈ Zag k,inR .i64 x) (kvS Zag) s.1 s.2 v)
theorem ZsY (g:Zo) (hsm:ZbR g):FnG prog 135 1 [.agg (Zu g)] [.star []] (PV.ptr) (fun v=>[Zmh g v]):=by
 refine FnG.mk func135 rfl ntmps135 rfl kr fun B F0 a w F Z hG G=>?_
 have hs:=hsm.1
 have hsl:=hs.1
 have hso:=hsm.2
 have hol1:=hso.1
 refine Ya (Zb G (qx 101 r1 (qC qZ)) Z [2,1] [101,1,0] (fun _=>rfl) (fun _=>rfl) fun τ a w F G=>?_)
 try dsimp only [RS.sub,SF.sub,CF.sub,csub,Anc.sub,List.map,zCF,Zu,rTx,ZP,ZN,Zn,rOp] at G
 generalize τ 1=v1 at G
 refine Za (Ya (Zb G (qe 2 101 r1 r1 (qf (ZaO (ek:=(fun n:Int=>PV.int .i64 n)) (ok:=(fun _=>True)) (kv:=(fun n:Int=>Value.int .i64 n)) 102) trivial qz (qf (ZaO (ek:=(fun n:Int=>PV.int .i64 n)) (ok:=(fun k=>∀ x ∈ Zeq k,inR .i64 x)) (kv:=(kvS Zeq)) 103) trivial qz (qf (ZaO (ek:=(fun n:Int=>PV.int .i64 n)) (ok:=(fun k=>∀ x ∈ Zeq k,inR .i64 x)) (kv:=(kvS Zeq)) 104) trivial qz (qf (oB [(0,.tmp 13),(1,.tmp 14),(2,.tmp 15),(3,.tmp 16)] [.slice none 0 0,.slice none 0 0,.map none,.map none,.map none] [(0,2),(2,1),(3,1),(4,1)] (.agg rfl .t kr kr (.same rfl kr (.same rfl kr (.same rfl kr .nil))))) r4 qz (qf (oX 105 .t) r1 qz (qO rr qZ))))))) Z [3,2,1] [105,104,103,102,101,1,0] (fun _=>rfl) (fun _=>rfl) fun τ a w F G=>?_))
 try dsimp only [RS.sub,SF.sub,CF.sub,csub,Anc.sub,List.map,Ze,xL,xM,Nat.reduceAdd,xD,xE,xT,xU,xC,xN,zCF,ldSF,Zu,rTx,ZP,ZN,Zn,rOp] at G
 generalize τ 18=v18,τ 14=v14 at G
 generalize τ 15=v15,τ 16=v16 at G
 refine Za (Ya (Ya (rZ G (qg 0 101 r1 r1 (qa 101 r1 r1 (qu Yb3 r1 (qJ qZ)))) Z [22,21,20,3,2,1] [105,104,103,102,101,1,0] fun G=>Yg ?_)))
 refine Zm (σ:=(Nat)×(List (GE Int Int))×(Nat)×(List (GE Zds Int))×(Nat)) [1,2,3,20,21] [0,1,101,104,105] (fun s=>[(22,.pv (.int .i64 (s.1:Int)))]) (fun s=>[(102,.ob (.val v14) (Zbv (fun n:Int=>PV.int .i64 n) (fun _=>True) (fun n:Int=>Value.int .i64 n) s.2.1 s.2.2.1)),(103,.ob (.val v15) (Zbv (fun n:Int=>PV.int .i64 n) (fun k=>∀ x ∈ Zeq k,inR .i64 x) (kvS Zeq) s.2.2.2.1 s.2.2.2.2))]) (fun s=>s.1≤g.txs.length∧(Zml s.2.1 (Zda (g.txs.take s.1))∧ZoP s.2.2.2.1 (lastK (g.txs.take s.1)))) (fun s=>g.txs.length - s.1) ((0),([]),(0),([]),(0)) G ⟨rfl,rfl,rfl,rfl,rfl,rfl,tv⟩ ⟨rfl,rfl,rfl,rfl,rfl,rfl,rfl,tv⟩ ⟨Yx _,⟨fun _=>rfl,fun _=>rfl⟩⟩ ?_
 clear G;intro s a w F hC G
 obtain ⟨i,eA,kA,eB,kB⟩:=s
 try dsimp only at hC
 obtain ⟨F,G⟩:=G.nM [22,21,20,3,2,1] [105,104,103,102,101,1,0]
 try dsimp only at G
 obtain ⟨hi,hq⟩:=hC
 have hxl:=fun hil:i<g.txs.length=>hs.at hil
 refine Ya (rZ G (qL r2) Z [23,22,21,20,3,2,1] [105,104,103,102,101,1,0] fun G=>Ya ?_)
 refine Zc G rfl (fun hc0=>?_) (fun hc0=>?_)
 ·have hil:i<g.txs.length:=by simp at hc0;omega
  have hio:=hil
  have htl:=hxl hil
  have hsl:=hs.1
  have hdn0:=hq.1
  have hcn:=hq.2
  refine Yf (Za (Ya (Yg (Ya (Zb G (qy 3 Yb3 r2 (qf (oR true 3 .t) r1 qz (qf (oH [.int .i64 0,.bool false,.slice none 0 0] 106) trivial qz (qS 3 106 r2 r1 qZ)))) Z [22,21,20,5,3,2,1] [106,105,104,103,102,101,1,0] (fun _=>rfl) (fun _=>rfl) fun τ a w F G=>?_)))))
  try dsimp only [RS.sub,SF.sub,CF.sub,csub,Anc.sub,List.map,Ze,xL,xM,Nat.reduceAdd,xD,xE,xT,xU,xC,xN,zCF,ldSF,Zu,rTx,ZP,ZN,Zn,rOp] at G
  generalize τ 5=v5 at G
  try simp only [Yd] at G
  refine Za (Ya (Ya (rZ G (qg 1 106 r1 r1 (qa 106 r1 r1 (qf (o_not .t) r1 qz qZ))) Z [28,22,21,20,5,3,2,1] [106,105,104,103,102,101,1,0] fun G=>?_)))
  refine Zc G rfl (fun hc1=>?_) (fun hc1=>?_)
  ·have hdn:(Nn g.txs i).done=false:=by simpa using hc1
   obtain ⟨eA2,heA2⟩:∃ z,z=eA:=⟨_,rfl⟩
   obtain ⟨kA2,hkA2⟩:∃ z,z=kA:=⟨_,rfl⟩
   obtain ⟨eB2,heB2⟩:∃ z,z=eB:=⟨_,rfl⟩
   obtain ⟨kB2,hkB2⟩:∃ z,z=kB:=⟨_,rfl⟩
   rw [← heA2,← hkA2,← heB2,← hkB2] at G
   have hR2:Zml eA2 (Zda (g.txs.take (i+1)))∧ZoP eB2 (lastK (g.txs.take (i+1))):=by rw [heA2,heB2,Zfy hio,ZgP hio,Yb (by rw [hdn];simp),Yb (by rw [hdn];simp),YM,YM];exact ⟨hdn0,hcn⟩
   refine Yz (Zh (Zr (Za (rZ G (qp r1 (qR rr qZ)) Z [22,21,20,3,2,1] [106,105,104,103,102,101,1,0] fun G=>?_))))
   replace G:=G.ent (i:=22) (s':=.pv (.int .i64 ((i+1:Nat):Int))) rfl (.int (Zd ow))
   obtain ⟨F,G⟩:=G.nM [21,20,3,2,1,22] [105,104,101,1,0,103,102]
   exact ⟨((i+1),(eA2),(kA2),(eB2),(kB2)),F,⟨by omega,hR2⟩,G,by omega⟩
  have hdn:(Nn g.txs i).done=true:=by simpa using hc1
  refine Yf (Za (Ya (ZB G (qR rr (qf (Zt 105 .is (by rfl)) r1 r1 (qf (oF 2 105 .adr) r1 r1 (qa 105 r1 r1 (qg 0 106 r1 r1 (qa 106 r1 r1 (qf (o_mapUpdateG (ek:=(fun n:Int=>PV.int .i64 n)) 102 underlying75 (Zcj Yb9) .is (ZI.int .t rfl) qi) r2 r1 qZ))))))) Z [22,21,20,5,3,2,1] [106,105,104,103,102,101,1,0] rfl rfl fun a w F G=>?_)))
  try dsimp only [List.map,xD,xE,xT,xU,ldSF,Zu,rTx,ZP,ZN,Zn,rOp] at G
  obtain ⟨eA2,heA2⟩:∃ z,z=(gPut (Nn g.txs i).id 1 (eA,kA)).1:=⟨_,rfl⟩
  obtain ⟨kA2,hkA2⟩:∃ z,z=(gPut (Nn g.txs i).id 1 (eA,kA)).2:=⟨_,rfl⟩
  rw [← heA2,← hkA2] at G
  refine Za (Ya (rZ G (qg 2 106 r1 r1 (qa 106 r1 r1 (qu Yb2 r1 (qJ qZ)))) Z [38,37,36,22,21,20,5,3,2,1] [106,105,104,103,102,101,1,0] fun G=>Yg ?_))
  refine Zm (σ:=(Nat)×(List (GE Zds Int))×(Nat)) [1,2,3,5,20,21,22,36,37] [0,1,101,102,104,105,106] (fun s=>[(38,.pv (.int .i64 (s.1:Int)))]) (fun s=>[(103,.ob (.val v15) (Zbv (fun n:Int=>PV.int .i64 n) (fun k=>∀ x ∈ Zeq k,inR .i64 x) (kvS Zeq) s.2.1 s.2.2))]) (fun s=>s.1≤(Nn g.txs i).ops.length∧(ZoP s.2.1 (lastK (g.txs.take i)++ZbG (Nn g.txs i).id ((Nn g.txs i).ops.take s.1)))) (fun s=>(Nn g.txs i).ops.length - s.1) ((0),(eB),(kB)) G ⟨rfl,rfl,rfl,rfl,rfl,rfl,rfl,rfl,rfl,rfl,tv⟩ ⟨rfl,rfl,rfl,rfl,rfl,rfl,rfl,rfl,tv⟩ ⟨Yx _,(by show ZoP _ (lastK (g.txs.take i) ++ []);rw [YM];exact hcn)⟩ ?_
  clear G;intro s a w F hC G
  obtain ⟨j,eB3,kB3⟩:=s
  try dsimp only at hC
  obtain ⟨F,G⟩:=G.nM [38,37,36,22,21,20,5,3,2,1] [106,105,104,103,102,101,1,0]
  try dsimp only at G
  obtain ⟨hi,hq⟩:=hC
  refine Ya (rZ G (qL r2) Z [39,38,37,36,22,21,20,5,3,2,1] [106,105,104,103,102,101,1,0] fun G=>Ya ?_)
  refine Zc G rfl (fun hc2=>?_) (fun hc2=>?_)
  ·have hil:j<(Nn g.txs i).ops.length:=by simp at hc2;omega
   refine Yf (Za (Ya (Yg (Ya (Zb G (qy 4 Yb2 r2 (qf (oR true 4 .t) r1 qz (qf (oH [.bool false,.int .i64 0,.int .i64 0,.int .i64 0] 107) trivial qz (qS 4 107 r2 r1 qZ)))) Z [38,37,36,22,21,20,7,5,3,2,1] [107,106,105,104,103,102,101,1,0] (fun _=>rfl) (fun _=>rfl) fun τ a w F G=>?_)))))
   try dsimp only [RS.sub,SF.sub,CF.sub,csub,Anc.sub,List.map,Ze,xL,xM,Nat.reduceAdd,xD,xE,xT,xU,xC,xN,zCF,ldSF,Zu,rTx,ZP,ZN,Zn,rOp] at G
   generalize τ 7=v7 at G
   try simp only [Yd] at G
   refine Za (Ya (rZ G (qg 0 107 r1 r1 (qa 107 r1 r1 (qf (o_not .t) r1 qz qZ))) Z [44,38,37,36,22,21,20,7,5,3,2,1] [107,106,105,104,103,102,101,1,0] fun G=>?_))
   refine Zc G rfl (fun hc3=>?_) (fun hc3=>?_)
   ·have hrd:(Nn (Nn g.txs i).ops j).read=false:=by simpa using hc3
    replace G:=G.turnZ 103 (0) (⟨(Nn g.txs i).id,(Nn (Nn g.txs i).ops j).key⟩:Zds) rfl
    refine Za6 103 13 (m1:=1) (m2:=2) kr G kr (qR rr (qf (Zt 105 .is (by rfl)) r1 r1 (qf (oF 3 105 .adr) r1 r1 (qa 105 r1 r1 (qg 0 106 r1 r1 (qa 106 r1 r1 (qg 1 107 r1 r1 (qa 107 r1 r1 (qf (ZaV (sz:=1) (r:=[(0,.tmp 50),(1,.tmp 52)]) (zs:=[.int .i64 0,.int .i64 0]) (pl:=[(0,1),(1,1)]) Ycb kr kr rfl (.one rfl .t one_int kr (.one rfl .t one_int kr .nil)) (by rfl)) r2 qz (qf (ZbZ (ek:=(fun n:Int=>PV.int .i64 n)) (z0:=(0)) 103 Ycf Zgc kr (fun _ _=>⟨rfl,Zdj⟩) .is (ZI.agg (enc:=Zeq) (k:=(⟨(Nn g.txs i).id,(Nn (Nn g.txs i).ops j).key⟩:Zds)) (.pagg .t) rfl)) r2 r1 (qp r1 (qf (Za5 (ek:=(fun n:Int=>PV.int .i64 n)) (z0:=(0)) 103 Ycf Zgc kr (fun _ _=>⟨rfl,Zdj⟩) .is (ZI.agg (enc:=Zeq) (k:=(⟨(Nn g.txs i).id,(Nn (Nn g.txs i).ops j).key⟩:Zds)) (.pagg .t) rfl) (by intros;first | rfl | simp [Anc.v,upd])) r2 r1 (qf (Zi .t rfl) r1 qz (qf (Zaz 103 (Zbz _ _ _) .is .t .t) r3 r1 qZ)))))))))))))) kr kr kr rfl rfl rfl (fun _ _ _ _ h=>.inr h) (by rw [Z];kernel_rfl) fun a w F G=>?_
    obtain ⟨F,G⟩:=G.nM [38,37,36,22,21,20,5,3,2,1] [107,106,105,104,103,102,101,1,0]
    try dsimp only [List.map,Ze,xL,xM,Nat.reduceAdd,xD,xE,xT,xU,xC,xN,zCF,ldSF,Zu,rTx,ZP,ZN,Zn,rOp] at G
    obtain ⟨eB4,heB4⟩:∃ z,z=gSet (⟨(Nn g.txs i).id,(Nn (Nn g.txs i).ops j).key⟩:Zds) (IntKind.wrap .i64 ((gGet (⟨(Nn g.txs i).id,(Nn (Nn g.txs i).ops j).key⟩:Zds) eB3).getD 0+1)) (gEns 0 (⟨(Nn g.txs i).id,(Nn (Nn g.txs i).ops j).key⟩:Zds) (eB3,kB3)).1:=⟨_,rfl⟩
    obtain ⟨kB4,hkB4⟩:∃ z,z=(gEns 0 (⟨(Nn g.txs i).id,(Nn (Nn g.txs i).ops j).key⟩:Zds) (eB3,kB3)).2:=⟨_,rfl⟩
    rw [← heB4,← hkB4] at G
    have hR3:ZoP eB4 (lastK (g.txs.take i)++ZbG (Nn g.txs i).id ((Nn g.txs i).ops.take (j+1))):=by rw [heB4,ZfA hil,Yb (by rw [hrd];simp),← YS];exact ZrC hq (by have h1:=ZmL hs i;have h2:=Zgd (Nn g.txs i).id ((Nn g.txs i).ops.take j);rw [Yj] at h2;rw [Yc];omega)
    refine Zj (Za (rZ G (qp r1 (qR rr qZ)) Z [38,37,36,22,21,20,5,3,2,1] [107,106,105,104,103,102,101,1,0] fun G=>?_))
    replace G:=G.ent (i:=38) (s':=.pv (.int .i64 ((j+1:Nat):Int))) rfl (.int (Zd ow))
    obtain ⟨F,G⟩:=G.nM [37,36,22,21,20,5,3,2,1,38] [106,105,104,102,101,1,0,103]
    exact ⟨((j+1),(eB4),(kB4)),F,⟨by omega,hR3⟩,G,by omega⟩
   have hrd:(Nn (Nn g.txs i).ops j).read=true:=by simpa using hc3
   obtain ⟨eB4,heB4⟩:∃ z,z=eB3:=⟨_,rfl⟩
   obtain ⟨kB4,hkB4⟩:∃ z,z=kB3:=⟨_,rfl⟩
   rw [← heB4,← hkB4] at G
   have hR3:ZoP eB4 (lastK (g.txs.take i)++ZbG (Nn g.txs i).id ((Nn g.txs i).ops.take (j+1))):=by rw [heB4,ZfA hil,Ye hrd,YM];exact hq
   refine Yf (Zj (Za (rZ G (qp r1 (qR rr qZ)) Z [38,37,36,22,21,20,5,3,2,1] [107,106,105,104,103,102,101,1,0] fun G=>?_)))
   replace G:=G.ent (i:=38) (s':=.pv (.int .i64 ((j+1:Nat):Int))) rfl (.int (Zd ow))
   obtain ⟨F,G⟩:=G.nM [37,36,22,21,20,5,3,2,1,38] [106,105,104,102,101,1,0,103]
   exact ⟨((j+1),(eB4),(kB4)),F,⟨by omega,hR3⟩,G,by omega⟩
  have hil:j=(Nn g.txs i).ops.length:=by simp at hc2;omega
  rw [hil,YD] at hq
  obtain ⟨eB2,heB2⟩:∃ z,z=eB3:=⟨_,rfl⟩
  obtain ⟨kB2,hkB2⟩:∃ z,z=kB3:=⟨_,rfl⟩
  rw [← heB2,← hkB2] at G
  have hR2:Zml eA2 (Zda (g.txs.take (i+1)))∧ZoP eB2 (lastK (g.txs.take (i+1))):=by rw [heA2,heB2,Zfy hio,ZgP hio,Ye hdn,Ye hdn];exact ⟨ZnE hdn0,hq⟩
  refine Yz (Zh (Zh (Zr (Zj (Za (rZ G (qp r1 (qR rr qZ)) Z [22,21,20,3,2,1] [106,105,104,103,102,101,1,0] fun G=>?_))))))
  replace G:=G.ent (i:=22) (s':=.pv (.int .i64 ((i+1:Nat):Int))) rfl (.int (Zd ow))
  obtain ⟨F,G⟩:=G.nM [21,20,3,2,1,22] [105,104,101,1,0,103,102]
  exact ⟨((i+1),(eA2),(kA2),(eB2),(kB2)),F,⟨by omega,hR2⟩,G,by omega⟩
 have hil:i=g.txs.length:=by simp at hc0;omega
 rw [hil,YD] at hq
 have hdA:=hq.1
 have hdB:=hq.2
 refine Yz (Zh (Zh (Zr (Za (Ya (Ya (rZ G (qg 1 101 r1 r1 (qa 101 r1 r1 (qu Yb5 r1 (qJ qZ)))) Z [63,62,61,3,2] [105,104,103,102,101,1,0] fun G=>Yg ?_)))))))
 refine Zm (σ:=(Nat)×(List (GE Zds Int))×(Nat)) [2,3,61,62] [0,1,101,102,103,105] (fun s=>[(63,.pv (.int .i64 (s.1:Int)))]) (fun s=>[(104,.ob (.val v16) (Zbv (fun n:Int=>PV.int .i64 n) (fun k=>∀ x ∈ Zeq k,inR .i64 x) (kvS Zeq) s.2.1 s.2.2))]) (fun s=>s.1≤g.orders.length∧(Zml s.2.1 (nxA (g.orders.take s.1)))) (fun s=>g.orders.length - s.1) ((0),([]),(0)) G ⟨rfl,rfl,rfl,rfl,rfl,tv⟩ ⟨rfl,rfl,rfl,rfl,rfl,rfl,rfl,tv⟩ ⟨Yx _,(fun _=>rfl)⟩ ?_
 clear G;intro s a w F hC G
 obtain ⟨i,eC,kC⟩:=s
 try dsimp only at hC
 obtain ⟨F,G⟩:=G.nM [63,62,61,3,2] [105,104,103,102,101,1,0]
 try dsimp only at G
 obtain ⟨hi,hq⟩:=hC
 have hol:=fun hil:i<g.orders.length=>hso.at hil
 refine Ya (rZ G (qL r2) Z [64,63,62,61,3,2] [105,104,103,102,101,1,0] fun G=>Ya ?_)
 refine Zc G rfl (fun hc4=>?_) (fun hc4=>?_)
 ·have hil:i<g.orders.length:=by simp at hc4;omega
  have hio:=hil
  have hcn:=hq
  have hox:=hol hil
  have hol1:=hso.1
  refine Yf (Za (Ya (Yg (Ya (Zb G (qy 2 Yb5 r2 (qf (oR true 2 .t) r1 qz (qf (oH [.int .i64 0,.slice none 0 0] 108) trivial qz (qS 2 108 r2 r1 qZ)))) Z [63,62,61,9,3,2] [108,105,104,103,102,101,1,0] (fun _=>rfl) (fun _=>rfl) fun τ a w F G=>?_)))))
  try dsimp only [RS.sub,SF.sub,CF.sub,csub,Anc.sub,List.map,Ze,xL,xM,Nat.reduceAdd,xD,xE,xT,xU,xC,xN,zCF,ldSF,Zu,rTx,ZP,ZN,Zn,rOp] at G
  generalize τ 9=v9 at G
  try simp only [Yd] at G
  refine Za (Ya (rZ G (qI qZ) Z [63,62,61,10,9,3,2] [108,105,104,103,102,101,1,0] fun G=>Ya ?_))
  refine rZ G (qg 1 108 r1 r1 (qa 108 r1 r1 (qu Yb0 r1 (qJ qZ)))) Z [70,69,68,63,62,61,10,9,3,2] [108,105,104,103,102,101,1,0] fun G=>Yg ?_
  replace G:=G.ent (i:=10) (s':=.pv (.int .i64 (atI (Nn g.orders i).txs 0))) rfl (.int rfl)
  refine Zm (σ:=(Nat)×(List (GE Zds Int))×(Nat)) [2,3,9,61,62,63,68,69] [0,1,101,102,103,105,108] (fun s=>[(70,.pv (.int .i64 (s.1:Int))),(10,.pv (.int .i64 (atI (Nn g.orders i).txs s.1)))]) (fun s=>[(104,.ob (.val v16) (Zbv (fun n:Int=>PV.int .i64 n) (fun k=>∀ x ∈ Zeq k,inR .i64 x) (kvS Zeq) s.2.1 s.2.2))]) (fun s=>s.1≤(Nn g.orders i).txs.length∧(Zml s.2.1 (nxA (g.orders.take i)++nxO (Nn g.orders i) s.1))) (fun s=>(Nn g.orders i).txs.length - s.1) ((0),(eC),(kC)) G ⟨rfl,rfl,rfl,rfl,rfl,rfl,rfl,rfl,rfl,rfl,tv⟩ ⟨rfl,rfl,rfl,rfl,rfl,rfl,rfl,rfl,tv⟩ ⟨Yx _,(by show Zml _ (nxA (g.orders.take i) ++ []);rw [YM];exact hcn)⟩ ?_
  clear G;intro s a w F hC G
  obtain ⟨j,eC3,kC3⟩:=s
  try dsimp only at hC
  obtain ⟨F,G⟩:=G.nM [70,69,68,63,62,61,10,9,3,2] [108,105,104,103,102,101,1,0]
  try dsimp only at G
  obtain ⟨hi,hq⟩:=hC
  refine Ya (rZ G (qL r2) Z [71,70,69,68,63,62,61,10,9,3,2] [108,105,104,103,102,101,1,0] fun G=>Ya ?_)
  refine Zc G rfl (fun hc5=>?_) (fun hc5=>?_)
  ·have hil:j<(Nn g.orders i).txs.length:=by simp at hc5;omega
   refine Yf (Za (Ya (Yg (Ya (Zg G (qy 1 Yb0 r2 (qf (oR false 1 .t) r1 qz (qO rr qZ))) Z [70,69,68,63,62,61,12,10,9,3,2] [108,105,104,103,102,101,1,0] rfl rfl fun a w F G=>?_)))))
   try simp only [Yd] at G
   refine Za (Ya (ZB G (qR rr (qf (Zt 105 .is (by rfl)) r1 r1 (qf (oF 4 105 .adr) r1 r1 (qa 105 r1 r1 (qg 0 108 r1 r1 (qa 108 r1 r1 (qR rr (qf (ZaV (sz:=1) (r:=[(0,.tmp 79),(1,.tmp 80)]) (zs:=[.int .i64 0,.int .i64 0]) (pl:=[(0,1),(1,1)]) Ycb kr kr rfl (.one rfl .t one_int kr (.one rfl .t one_int kr .nil)) (by rfl)) r2 qz (qR rr (qf (o_mapUpdateG (ek:=(fun n:Int=>PV.int .i64 n)) 104 Ycf Zgc .is (ZI.agg (enc:=Zeq) (k:=(⟨(Nn g.orders i).key,atI (Nn g.orders i).txs j⟩:Zds)) (.pagg .t) rfl) .t) r3 r1 qZ)))))))))) Z [70,69,68,63,62,61,12,10,9,3,2] [108,105,104,103,102,101,1,0] rfl rfl fun a w F G=>?_))
   try dsimp only [List.map,Ze,xL,xM,Nat.reduceAdd,xD,xE,xT,xU,xC,xN,zCF,ldSF,Zu,rTx,ZP,ZN,Zn,rOp] at G
   obtain ⟨eC4,heC4⟩:∃ z,z=(gPut (⟨(Nn g.orders i).key,atI (Nn g.orders i).txs j⟩:Zds) (Nn (Nn g.orders i).txs j) (eC3,kC3)).1:=⟨_,rfl⟩
   obtain ⟨kC4,hkC4⟩:∃ z,z=(gPut (⟨(Nn g.orders i).key,atI (Nn g.orders i).txs j⟩:Zds) (Nn (Nn g.orders i).txs j) (eC3,kC3)).2:=⟨_,rfl⟩
   rw [← heC4,← hkC4] at G
   have hR3:Zml eC4 (nxA (g.orders.take i)++nxO (Nn g.orders i) (j+1)):=by rw [heC4,Zo8,← YS];exact ZnE hq
   refine Za (Zg G (qR rr (qO rr qZ)) Z [70,69,68,63,62,61,10,9,3,2] [108,105,104,103,102,101,1,0] rfl rfl fun a w F G=>Zj (Za ?_))
   refine rZ G (qp r1 (qR rr qZ)) Z [70,69,68,63,62,61,10,9,3,2] [108,105,104,103,102,101,1,0] fun G=>?_
   replace G:=G.ent (i:=70) (s':=.pv (.int .i64 ((j+1:Nat):Int))) rfl (.int (Zd ow))
   replace G:=G.ent (i:=10) (s':=.pv (.int .i64 (atI (Nn g.orders i).txs (j+1)))) rfl (.int (by simp [atI]))
   obtain ⟨F,G⟩:=G.nM [69,68,63,62,61,9,3,2,10,70] [108,105,103,102,101,1,0,104]
   exact ⟨((j+1),(eC4),(kC4)),F,⟨by omega,hR3⟩,G,by omega⟩
  have hil:j=(Nn g.orders i).txs.length:=by simp at hc5;omega
  rw [hil] at hq
  obtain ⟨eC2,heC2⟩:∃ z,z=eC3:=⟨_,rfl⟩
  obtain ⟨kC2,hkC2⟩:∃ z,z=kC3:=⟨_,rfl⟩
  rw [← heC2,← hkC2] at G
  have hR2:Zml eC2 (nxA (g.orders.take (i+1))):=by rw [heC2,ZpM hio];exact hq
  refine Yz (Zh (Zh (Zr (Zj (Za (rZ G (qp r1 (qR rr qZ)) Z [63,62,61,3,2] [108,105,104,103,102,101,1,0] fun G=>?_))))))
  replace G:=G.ent (i:=63) (s':=.pv (.int .i64 ((i+1:Nat):Int))) rfl (.int (Zd ow))
  obtain ⟨F,G⟩:=G.nM [62,61,3,2,63] [105,103,102,101,1,0,104]
  exact ⟨((i+1),(eC2),(kC2)),F,⟨by omega,hR2⟩,G,by omega⟩
 have hil:i=g.orders.length:=by simp at hc4;omega
 rw [hil,YD] at hq
 have hdC:=hq
 refine Yz (Zh (Zh (Zr (Za (Ya (rZ G (qR rr (qO rr qZ)) Z [2] [105,104,103,102,101,1,0] fun G=>Yh ?_))))))
 obtain ⟨b,rfl⟩:=G.shape 105 rfl
 obtain ⟨F,G⟩:=G.push 1 104 rfl rfl rfl kr
 obtain ⟨F,G⟩:=G.push 1 103 rfl rfl rfl kr
 obtain ⟨F,G⟩:=G.push 1 102 rfl rfl rfl kr
 obtain ⟨F,G⟩:=G.push 1 105 rfl rfl rfl kr
 have G:=G.turn 1 rfl (r':=RS.hp (Zmh g (.pointer (some ⟨b,0,none⟩)))) (fun _ _ _ _ h=>⟨(⟨v14,v15,v16,eA,kA,eB,kB,eC,kC⟩:FS),⟨hdA,hdB,hdC⟩,h⟩)
 refine Zab (h':=fun v=>Zmh g v) hG G rfl (.tmp rfl .nil) (.one .ptr) rfl
theorem ZfV {P:Program} {B:Zbj} {F0:Fp} (hG:Zox B F0 2) {E:En} {a:Act} {w:World} {F:Fp} {fn:Func} {q:PV} {k1 k2:HP} {ss:List SF} (G:Sat B E a w F) (h0:Go.Gm.look E.r 0=some (frame B)) (hr:ROk P E fn.results.toList ss) (hq:Zbm ss q)
  (h1:Go.Gm.look E.r 1=some (RS.hp k1)) (h2:Go.Gm.look E.r 2=some (RS.hp k2)):bodyPost P fn (RG B F0 2 q (fun _=>[k1,k2])) .ret a w:=
 ZsA hG G h0 hr hq fun v τ y hv i h hi=>by
  match i,hi with
  | 0,hi=>simp at hi;subst hi;exact ⟨_,h1,by omega,fun _ _ _ h=>h⟩
  | 1,hi=>simp at hi;subst hi;exact ⟨_,h2,by omega,fun _ _ _ h=>h⟩
theorem ZrN (b:Nat) (g:Zo) (t:TxD) (o:OpD) (mv:Value) (AA:List (Zf×Int)) (RR:List Zf) (hRR:RR.length≤10000000):FnG prog 136 2 [.is (.pointer (some ⟨b,0,none⟩)),.agg (rTx t),.agg (rOp o),.is mv] [Zmh g (.pointer (some ⟨b,0,none⟩)),Zfh AA RR mv] (.tup []) (fun _=>[Zmh g (.pointer (some ⟨b,0,none⟩)),Zfh AA (RR++rdO g t o) mv]):=by
 refine FnG.mk func136 rfl ntmps136 rfl kr fun B F0 a w F Z hG G=>?_
 obtain ⟨⟨mA,mB,mC,eA,kA,eB,kB,eC,kC⟩,G⟩:=G.open_ex 1 rfl
 obtain ⟨hI,G⟩:=G.open_and 1 rfl
 try dsimp only [Zq1] at G
 obtain ⟨F,G⟩:=G.peel 1 3 rfl rfl
 obtain ⟨F,G⟩:=G.peel 1 4 rfl rfl
 obtain ⟨F,G⟩:=G.peel 1 5 rfl rfl
 obtain ⟨F,G⟩:=G.peel 1 6 rfl rfl
 obtain ⟨⟨es,ck⟩,G⟩:=G.open_ex 2 rfl
 obtain ⟨hq0,G⟩:=G.open_and 2 rfl
 replace G:=G.turn 2 rfl (r':=.ob (.val mv) (Zbv (fun n:Int=>PV.int .i64 n) (fun k=>∀ x ∈ Zag k,inR .i64 x) (kvS Zag) es ck)) (fun _ _ _ _ h=>h)
 try dsimp only at hI hq0
 obtain ⟨F,G⟩:=G.nM [3,2,1,0] [6,5,4,3,2,0]
 refine Ya (Zb G (qx 101 r1 (qx 102 r1 qZ)) Z [6,5,3,0] [102,101,6,5,4,3,2,0] (fun _=>rfl) (fun _=>rfl) fun τ a w F G=>?_)
 try dsimp only [RS.sub,SF.sub,CF.sub,csub,Anc.sub,List.map,zCF,Zu,rTx,ZP,ZN,Zn,rOp] at G
 generalize τ 5=v5,τ 6=v6 at G
 refine Za (Ya (Ya (ZB G (qg 2 102 r1 r1 (qa 102 r1 r1 (qg 0 101 r1 r1 (qa 101 r1 r1 (qf (o_eql .t .t) r2 qz (qR rr (qv 2 102 rfl r2 r1 (qw 102 rfl r2 r1 (qk rfl (fun h=>o_neq (.w h) qi) r2 qz (qk rfl (fun h=>oM (.w h)) r2 qz (Zy.cons (ZaD.cond2 rfl rfl (fun h=>Za0 .t (by rfl))) r2 qz (Zy.cons (ZaD.cond2 rfl rfl (fun h=>Zt 3 (.w h .is) (by rfl))) r2 r1 (Zy.cons (ZaD.cond2 rfl rfl (fun h=>Z3 (off:=2) 3 (.w h .adr) kr (by rfl))) r2 r1 (Zy.cons (ZaD.cond2 rfl rfl (fun h=>Zbx (ag:=false) (sz:=1) 3 (.w h .adr) kr kr kr (by rfl))) r2 r1 (Zy.cons (ZaD.cond2 rfl rfl (fun h=>Z3 (off:=2) 102 .is kr (by rfl))) r2 r1 (Zy.cons (ZaD.cond2 rfl rfl (fun h=>Zbx (ag:=false) (sz:=1) 102 (.w h .adr) kr kr kr (by rfl))) r2 r1 (Zy.cons (ZaD.cond2 rfl rfl (fun h=>Zah (ek:=(fun n:Int=>PV.int .i64 n)) (z0:=(0)) 4 underlying75 (Zcj Yb9) kr (fun _ _=>⟨rfl,Zdj⟩) (.w h .is) (ZI.int (.w h) rfl))) r3 r1 (Zy.cons (ZaD.cond2 rfl rfl (fun h=>o_eql (.w h) qi)) r2 qz (Zy.cons (ZaD.cond2 rfl rfl (fun h=>Za0 (.w h) (by rfl))) r2 qz (Zy.cons (ZaD.cond2 rfl rfl (fun h=>Za0 .t (by rfl))) r2 qz (Zy.cons (ZaD.cond2 rfl rfl (fun h=>Zt 3 (.w h .is) (by rfl))) r2 r1 (Zy.cons (ZaD.cond2 rfl rfl (fun h=>Z3 (off:=3) 3 (.w h .adr) kr (by rfl))) r2 r1 (Zy.cons (ZaD.cond2 rfl rfl (fun h=>Zbx (ag:=false) (sz:=1) 3 (.w h .adr) kr kr kr (by rfl))) r2 r1 (Zy.cons (ZaD.cond2 rfl rfl (fun h=>Z3 (off:=2) 102 .is kr (by rfl))) r2 r1 (Zy.cons (ZaD.cond2 rfl rfl (fun h=>Zbx (ag:=false) (sz:=1) 102 (.w h .adr) kr kr kr (by rfl))) r2 r1 (Zy.cons (ZaD.cond2 rfl rfl (fun h=>Z3 (off:=1) 102 .is kr (by rfl))) r2 r1 (Zy.cons (ZaD.cond2 rfl rfl (fun h=>Zbx (ag:=false) (sz:=1) 102 (.w h .adr) kr kr kr (by rfl))) r2 r1 (Zy.cons (ZaD.cond2 rfl rfl (fun h=>ZaV (sz:=1) (r:=[(0,.tmp 33),(1,.tmp 35)]) (zs:=[.int .i64 0,.int .i64 0]) (pl:=[(0,1),(1,1)]) Ycb kr kr rfl (.one rfl (.w h) one_int kr (.one rfl (.w h) one_int kr .nil)) (by rfl))) r3 qz (Zy.cons (ZaD.cond2 rfl rfl (fun h=>Zah (ek:=(fun n:Int=>PV.int .i64 n)) (z0:=(0)) 5 Ycf Zgc kr (fun _ _=>⟨rfl,Zdj⟩) (.w h .is) (ZI.agg (enc:=Zeq) (k:=(⟨o.tx,o.key⟩:Zds)) (.pagg (.w h)) rfl))) r3 r1 (Zy.cons (ZaD.cond2 rfl rfl (fun h=>Z3 (off:=3) 102 .is kr (by rfl))) r2 r1 (Zy.cons (ZaD.cond2 rfl rfl (fun h=>Zbx (ag:=false) (sz:=1) 102 (.w h .adr) kr kr kr (by rfl))) r2 r1 (Zy.cons (ZaD.cond2 rfl rfl (fun h=>o_neq (.w h) (.w h))) r3 qz (Zy.cons (ZaD.cond2 rfl rfl (fun h=>Zaa (.w h) (.wc h))) r3 qz (qk rfl (fun h=>ZH (.w h) (.wc h)) r3 qz (qf (Zaa .t .t) r2 qz qZ))))))))))))))))))))))))))))))))))) Z [43,6,5,3,0] [102,101,6,5,4,3,2,0] rfl rfl fun a w F G=>?_)))
 try dsimp only [List.map,Ze,xL,xM,Nat.reduceAdd,xD,xE,xT,xU,xC,xN,zCF,ldSF,Zu,rTx,ZP,ZN,Zn,rOp] at G
 refine Za (Zc G rfl (fun hc0=>?_) (fun hc0=>?_))
 ·have hno:Zq2 g t o=true:=by unfold Zq2 ZiN Zln;rw [← hI.dn,← hI.la];simpa using hc0
  obtain ⟨es3,hes3⟩:∃ z,z=es:=⟨_,rfl⟩
  obtain ⟨ck3,hck3⟩:∃ z,z=ck:=⟨_,rfl⟩
  rw [← hes3,← hck3] at G
  have hR9:Zgj es3 AA (RR++rdO g t o):=by rw [hes3];unfold rdO;rw [Ye hno,YM];exact hq0
  refine Yh (Zl ?_)
  have G:=G.fresh 1 rfl
  obtain ⟨F,G⟩:=G.push 1 6 rfl rfl rfl kr
  obtain ⟨F,G⟩:=G.push 1 5 rfl rfl rfl kr
  obtain ⟨F,G⟩:=G.push 1 4 rfl rfl rfl kr
  obtain ⟨F,G⟩:=G.push 1 3 rfl rfl rfl kr
  have G:=G.turn 1 rfl (r':=RS.hp (Zmh g (.pointer (some ⟨b,0,none⟩)))) (fun _ _ _ _ h=>⟨(⟨mA,mB,mC,eA,kA,eB,kB,eC,kC⟩:FS),hI,h⟩)
  have G:=G.turn 2 rfl (r':=RS.hp (Zfh AA (RR++rdO g t o) mv)) (fun _ _ _ _ h=>⟨(es3,ck3),hR9,h⟩)
  refine ZfV hG G rfl .nil Zbm.none rfl rfl
 have hno:Zq2 g t o=false:=by unfold Zq2 ZiN Zln;rw [← hI.dn,← hI.la];simpa using hc0
 refine Yf (Za (Ya (Ya (rZ G (qg 2 102 r1 r1 (qa 102 r1 r1 (qf (o_neq .t qi) r1 qz qZ))) Z [46,6,5,3,0] [102,101,6,5,4,3,2,0] fun G=>?_))))
 refine Zc G rfl (fun hc1=>?_) (fun hc1=>?_)
 ·have h0:¬ o.tx=0:=by simpa using hc1
  replace G:=G.turnZ 2 (0) (⟨o.tx,t.id,2,o.key⟩:Zf) rfl
  refine Za6 2 12 (m1:=1) (m2:=2) kr G kr (qR rr (qg 2 102 r1 r1 (qa 102 r1 r1 (qg 0 101 r1 r1 (qa 101 r1 r1 (qg 1 102 r1 r1 (qa 102 r1 r1 (qf (oB [(0,.tmp 49),(1,.tmp 51),(2,_),(3,.tmp 53)] [.int .i64 0,.int .i64 0,.int .i64 0,.int .i64 0] [(0,1),(1,1),(2,1),(3,1)] (.one rfl .t one_int kr (.one rfl .t one_int kr (.one rfl qi one_int kr (.one rfl .t one_int kr .nil))))) r3 qz (qf (ZbZ (ek:=(fun n:Int=>PV.int .i64 n)) (z0:=(0)) 2 Ycc ZcF kr (fun _ _=>⟨rfl,Zdj⟩) .is (ZI.agg (enc:=Zag) (k:=(⟨o.tx,t.id,2,o.key⟩:Zf)) (.pagg .t) rfl)) r2 r1 (qp r1 (qf (Za5 (ek:=(fun n:Int=>PV.int .i64 n)) (z0:=(0)) 2 Ycc ZcF kr (fun _ _=>⟨rfl,Zdj⟩) .is (ZI.agg (enc:=Zag) (k:=(⟨o.tx,t.id,2,o.key⟩:Zf)) (.pagg .t) rfl) (by intros;first | rfl | simp [Anc.v,upd])) r2 r1 (qf (Zi .t rfl) r1 qz (qf (Zaz 2 (Zbz _ _ _) .is .t .t) r3 r1 qZ))))))))))))) kr kr kr rfl rfl rfl (fun _ _ _ _ h=>.inr h) (by rw [Z];kernel_rfl) fun a w F G=>?_
  obtain ⟨F,G⟩:=G.nM [6,5,3,0] [102,101,6,5,4,3,2,0]
  try dsimp only [List.map,Ze,xL,xM,Nat.reduceAdd,xD,xE,xT,xU,xC,xN,zCF,ldSF,Zu,rTx,ZP,ZN,Zn,rOp] at G
  obtain ⟨es2,hes2⟩:∃ z,z=gSet (⟨o.tx,t.id,2,o.key⟩:Zf) (IntKind.wrap .i64 ((gGet (⟨o.tx,t.id,2,o.key⟩:Zf) es).getD 0+1)) (gEns 0 (⟨o.tx,t.id,2,o.key⟩:Zf) (es,ck)).1:=⟨_,rfl⟩
  obtain ⟨ck2,hck2⟩:∃ z,z=(gEns 0 (⟨o.tx,t.id,2,o.key⟩:Zf) (es,ck)).2:=⟨_,rfl⟩
  rw [← hes2,← hck2] at G
  have hR2:Zgj es2 AA (RR++rdA t o):=by rw [hes2];unfold rdA;rw [Yb h0];exact ZjQ hq0 ow
  refine Za (Ya (ZB G (qR rr (qf (Zt 3 .is (by rfl)) r1 r1 (qf (oF 4 3 .adr) r1 r1 (qa 3 r1 r1 (qg 1 102 r1 r1 (qa 102 r1 r1 (qg 2 102 r1 r1 (qa 102 r1 r1 (qf (ZaV (sz:=1) (r:=[(0,.tmp 64),(1,.tmp 66)]) (zs:=[.int .i64 0,.int .i64 0]) (pl:=[(0,1),(1,1)]) Ycb kr kr rfl (.one rfl .t one_int kr (.one rfl .t one_int kr .nil)) (by rfl)) r2 qz (qf (Zah (ek:=(fun n:Int=>PV.int .i64 n)) (z0:=(0)) 6 Ycf Zgc kr (fun _ _=>⟨rfl,Zdj⟩) .is (ZI.agg (enc:=Zeq) (k:=(⟨o.key,o.tx⟩:Zds)) (.pagg .t) rfl)) r2 r1 (qO rr qZ))))))))))) Z [8,6,5,3] [102,101,6,5,4,3,2,0] rfl rfl fun a w F G=>?_))
  try dsimp only [List.map,Ze,xL,xM,Nat.reduceAdd,xD,xE,xT,xU,xC,xN,zCF,ldSF,Zu,rTx,ZP,ZN,Zn,rOp] at G
  rw [show (gGet (⟨o.key,o.tx⟩:Zds) eC).getD 0=(nxI g o.key o.tx) from hI.nx _] at G
  refine Za (Ya (rZ G (qR rr (qf (o_neq .t qi) r1 qz (qR rr (qm rfl rfl rfl rfl (qv 0 101 rfl r2 r1 (qw 101 rfl r2 r1 (qk rfl (fun h=>o_neq (.w h) (.w h)) r3 qz (qf (ZH .t .t) r2 qz qZ)))))))) Z [76,8,6,5,3] [102,101,6,5,4,3,2,0] fun G=>?_))
  refine Zc G rfl (fun hc2=>?_) (fun hc2=>?_)
  ·have h1:(nxI g o.key o.tx)≠0∧(nxI g o.key o.tx)≠t.id:=by simpa using hc2
   replace G:=G.turnZ 2 (0) (⟨t.id,(nxI g o.key o.tx),3,o.key⟩:Zf) rfl
   refine Za6 2 11 (m1:=1) (m2:=2) kr G kr (qR rr (qg 0 101 r1 r1 (qa 101 r1 r1 (qR rr (qg 1 102 r1 r1 (qa 102 r1 r1 (qf (oB [(0,.tmp 79),(1,.tmp 80),(2,_),(3,.tmp 82)] [.int .i64 0,.int .i64 0,.int .i64 0,.int .i64 0] [(0,1),(1,1),(2,1),(3,1)] (.one rfl .t one_int kr (.one rfl .t one_int kr (.one rfl qi one_int kr (.one rfl .t one_int kr .nil))))) r3 qz (qf (ZbZ (ek:=(fun n:Int=>PV.int .i64 n)) (z0:=(0)) 2 Ycc ZcF kr (fun _ _=>⟨rfl,Zdj⟩) .is (ZI.agg (enc:=Zag) (k:=(⟨t.id,(nxI g o.key o.tx),3,o.key⟩:Zf)) (.pagg .t) rfl)) r2 r1 (qp r1 (qf (Za5 (ek:=(fun n:Int=>PV.int .i64 n)) (z0:=(0)) 2 Ycc ZcF kr (fun _ _=>⟨rfl,Zdj⟩) .is (ZI.agg (enc:=Zag) (k:=(⟨t.id,(nxI g o.key o.tx),3,o.key⟩:Zf)) (.pagg .t) rfl) (by intros;first | rfl | simp [Anc.v,upd])) r2 r1 (qf (Zi .t rfl) r1 qz (qf (Zaz 2 (Zbz _ _ _) .is .t .t) r3 r1 qZ)))))))))))) kr kr kr rfl rfl rfl (fun _ _ _ _ h=>.inr h) (by rw [Z];kernel_rfl) fun a w F G=>?_
   obtain ⟨F,G⟩:=G.nM [] [102,101,6,5,4,3,2,0]
   try dsimp only [List.map,Ze,xL,xM,Nat.reduceAdd,xD,xE,xT,xU,xC,xN,zCF,ldSF,Zu,rTx,ZP,ZN,Zn,rOp] at G
   obtain ⟨es3,hes3⟩:∃ z,z=gSet (⟨t.id,(nxI g o.key o.tx),3,o.key⟩:Zf) (IntKind.wrap .i64 ((gGet (⟨t.id,(nxI g o.key o.tx),3,o.key⟩:Zf) es2).getD 0+1)) (gEns 0 (⟨t.id,(nxI g o.key o.tx),3,o.key⟩:Zf) (es2,ck2)).1:=⟨_,rfl⟩
   obtain ⟨ck3,hck3⟩:∃ z,z=(gEns 0 (⟨t.id,(nxI g o.key o.tx),3,o.key⟩:Zf) (es2,ck2)).2:=⟨_,rfl⟩
   rw [← hes3,← hck3] at G
   have hR9:Zgj es3 AA (RR++rdO g t o):=by rw [hes3];unfold rdO;rw [Yb (by rw [hno];simp)];unfold rdB;rw [Ye h1,← YS];exact ZjQ hR2 (by have h9:(rdA t o).length≤1:=by { unfold rdA;split <;> simp };rw [Yc];omega)
   have G:=G.fresh 1 rfl
   obtain ⟨F,G⟩:=G.push 1 6 rfl rfl rfl kr
   obtain ⟨F,G⟩:=G.push 1 5 rfl rfl rfl kr
   obtain ⟨F,G⟩:=G.push 1 4 rfl rfl rfl kr
   obtain ⟨F,G⟩:=G.push 1 3 rfl rfl rfl kr
   have G:=G.turn 1 rfl (r':=RS.hp (Zmh g (.pointer (some ⟨b,0,none⟩)))) (fun _ _ _ _ h=>⟨(⟨mA,mB,mC,eA,kA,eB,kB,eC,kC⟩:FS),hI,h⟩)
   have G:=G.turn 2 rfl (r':=RS.hp (Zfh AA (RR++rdO g t o) mv)) (fun _ _ _ _ h=>⟨(es3,ck3),hR9,h⟩)
   refine ZfV hG G rfl .nil Zbm.none rfl rfl
  have h1:¬ ((nxI g o.key o.tx)≠0∧(nxI g o.key o.tx)≠t.id):=by simpa using hc2
  obtain ⟨es3,hes3⟩:∃ z,z=es2:=⟨_,rfl⟩
  obtain ⟨ck3,hck3⟩:∃ z,z=ck2:=⟨_,rfl⟩
  rw [← hes3,← hck3] at G
  have hR9:Zgj es3 AA (RR++rdO g t o):=by rw [hes3];unfold rdO;rw [Yb (by rw [hno];simp)];unfold rdB;rw [Yb h1,YM];exact hR2
  refine Yf ?_
  have G:=G.fresh 1 rfl
  obtain ⟨F,G⟩:=G.push 1 6 rfl rfl rfl kr
  obtain ⟨F,G⟩:=G.push 1 5 rfl rfl rfl kr
  obtain ⟨F,G⟩:=G.push 1 4 rfl rfl rfl kr
  obtain ⟨F,G⟩:=G.push 1 3 rfl rfl rfl kr
  have G:=G.turn 1 rfl (r':=RS.hp (Zmh g (.pointer (some ⟨b,0,none⟩)))) (fun _ _ _ _ h=>⟨(⟨mA,mB,mC,eA,kA,eB,kB,eC,kC⟩:FS),hI,h⟩)
  have G:=G.turn 2 rfl (r':=RS.hp (Zfh AA (RR++rdO g t o) mv)) (fun _ _ _ _ h=>⟨(es3,ck3),hR9,h⟩)
  refine ZfV hG G rfl .nil Zbm.none rfl rfl
 have h0:o.tx=0:=by simpa using hc1
 obtain ⟨es2,hes2⟩:∃ z,z=es:=⟨_,rfl⟩
 obtain ⟨ck2,hck2⟩:∃ z,z=ck:=⟨_,rfl⟩
 rw [← hes2,← hck2] at G
 have hR2:Zgj es2 AA (RR++rdA t o):=by rw [hes2];unfold rdA;rw [Ye h0,YM];exact hq0
 refine Yf (Za (Ya (ZB G (qR rr (qf (Zt 3 .is (by rfl)) r1 r1 (qf (oF 4 3 .adr) r1 r1 (qa 3 r1 r1 (qg 1 102 r1 r1 (qa 102 r1 r1 (qg 2 102 r1 r1 (qa 102 r1 r1 (qf (ZaV (sz:=1) (r:=[(0,.tmp 64),(1,.tmp 66)]) (zs:=[.int .i64 0,.int .i64 0]) (pl:=[(0,1),(1,1)]) Ycb kr kr rfl (.one rfl .t one_int kr (.one rfl .t one_int kr .nil)) (by rfl)) r2 qz (qf (Zah (ek:=(fun n:Int=>PV.int .i64 n)) (z0:=(0)) 6 Ycf Zgc kr (fun _ _=>⟨rfl,Zdj⟩) .is (ZI.agg (enc:=Zeq) (k:=(⟨o.key,o.tx⟩:Zds)) (.pagg .t) rfl)) r2 r1 (qO rr qZ))))))))))) Z [8,6,5,3] [102,101,6,5,4,3,2,0] rfl rfl fun a w F G=>?_)))
 try dsimp only [List.map,Ze,xL,xM,Nat.reduceAdd,xD,xE,xT,xU,xC,xN,zCF,ldSF,Zu,rTx,ZP,ZN,Zn,rOp] at G
 rw [show (gGet (⟨o.key,o.tx⟩:Zds) eC).getD 0=(nxI g o.key o.tx) from hI.nx _] at G
 refine Za (Ya (rZ G (qR rr (qf (o_neq .t qi) r1 qz (qR rr (qm rfl rfl rfl rfl (qv 0 101 rfl r2 r1 (qw 101 rfl r2 r1 (qk rfl (fun h=>o_neq (.w h) (.w h)) r3 qz (qf (ZH .t .t) r2 qz qZ)))))))) Z [76,8,6,5,3] [102,101,6,5,4,3,2,0] fun G=>?_))
 refine Zc G rfl (fun hc3=>?_) (fun hc3=>?_)
 ·have h1:(nxI g o.key o.tx)≠0∧(nxI g o.key o.tx)≠t.id:=by simpa using hc3
  replace G:=G.turnZ 2 (0) (⟨t.id,(nxI g o.key o.tx),3,o.key⟩:Zf) rfl
  refine Za6 2 11 (m1:=1) (m2:=2) kr G kr (qR rr (qg 0 101 r1 r1 (qa 101 r1 r1 (qR rr (qg 1 102 r1 r1 (qa 102 r1 r1 (qf (oB [(0,.tmp 79),(1,.tmp 80),(2,_),(3,.tmp 82)] [.int .i64 0,.int .i64 0,.int .i64 0,.int .i64 0] [(0,1),(1,1),(2,1),(3,1)] (.one rfl .t one_int kr (.one rfl .t one_int kr (.one rfl qi one_int kr (.one rfl .t one_int kr .nil))))) r3 qz (qf (ZbZ (ek:=(fun n:Int=>PV.int .i64 n)) (z0:=(0)) 2 Ycc ZcF kr (fun _ _=>⟨rfl,Zdj⟩) .is (ZI.agg (enc:=Zag) (k:=(⟨t.id,(nxI g o.key o.tx),3,o.key⟩:Zf)) (.pagg .t) rfl)) r2 r1 (qp r1 (qf (Za5 (ek:=(fun n:Int=>PV.int .i64 n)) (z0:=(0)) 2 Ycc ZcF kr (fun _ _=>⟨rfl,Zdj⟩) .is (ZI.agg (enc:=Zag) (k:=(⟨t.id,(nxI g o.key o.tx),3,o.key⟩:Zf)) (.pagg .t) rfl) (by intros;first | rfl | simp [Anc.v,upd])) r2 r1 (qf (Zi .t rfl) r1 qz (qf (Zaz 2 (Zbz _ _ _) .is .t .t) r3 r1 qZ)))))))))))) kr kr kr rfl rfl rfl (fun _ _ _ _ h=>.inr h) (by rw [Z];kernel_rfl) fun a w F G=>?_
  obtain ⟨F,G⟩:=G.nM [] [102,101,6,5,4,3,2,0]
  try dsimp only [List.map,Ze,xL,xM,Nat.reduceAdd,xD,xE,xT,xU,xC,xN,zCF,ldSF,Zu,rTx,ZP,ZN,Zn,rOp] at G
  obtain ⟨es3,hes3⟩:∃ z,z=gSet (⟨t.id,(nxI g o.key o.tx),3,o.key⟩:Zf) (IntKind.wrap .i64 ((gGet (⟨t.id,(nxI g o.key o.tx),3,o.key⟩:Zf) es2).getD 0+1)) (gEns 0 (⟨t.id,(nxI g o.key o.tx),3,o.key⟩:Zf) (es2,ck2)).1:=⟨_,rfl⟩
  obtain ⟨ck3,hck3⟩:∃ z,z=(gEns 0 (⟨t.id,(nxI g o.key o.tx),3,o.key⟩:Zf) (es2,ck2)).2:=⟨_,rfl⟩
  rw [← hes3,← hck3] at G
  have hR9:Zgj es3 AA (RR++rdO g t o):=by rw [hes3];unfold rdO;rw [Yb (by rw [hno];simp)];unfold rdB;rw [Ye h1,← YS];exact ZjQ hR2 (by have h9:(rdA t o).length≤1:=by { unfold rdA;split <;> simp };rw [Yc];omega)
  have G:=G.fresh 1 rfl
  obtain ⟨F,G⟩:=G.push 1 6 rfl rfl rfl kr
  obtain ⟨F,G⟩:=G.push 1 5 rfl rfl rfl kr
  obtain ⟨F,G⟩:=G.push 1 4 rfl rfl rfl kr
  obtain ⟨F,G⟩:=G.push 1 3 rfl rfl rfl kr
  have G:=G.turn 1 rfl (r':=RS.hp (Zmh g (.pointer (some ⟨b,0,none⟩)))) (fun _ _ _ _ h=>⟨(⟨mA,mB,mC,eA,kA,eB,kB,eC,kC⟩:FS),hI,h⟩)
  have G:=G.turn 2 rfl (r':=RS.hp (Zfh AA (RR++rdO g t o) mv)) (fun _ _ _ _ h=>⟨(es3,ck3),hR9,h⟩)
  refine ZfV hG G rfl .nil Zbm.none rfl rfl
 have h1:¬ ((nxI g o.key o.tx)≠0∧(nxI g o.key o.tx)≠t.id):=by simpa using hc3
 obtain ⟨es3,hes3⟩:∃ z,z=es2:=⟨_,rfl⟩
 obtain ⟨ck3,hck3⟩:∃ z,z=ck2:=⟨_,rfl⟩
 rw [← hes3,← hck3] at G
 have hR9:Zgj es3 AA (RR++rdO g t o):=by rw [hes3];unfold rdO;rw [Yb (by rw [hno];simp)];unfold rdB;rw [Yb h1,YM];exact hR2
 refine Yf ?_
 have G:=G.fresh 1 rfl
 obtain ⟨F,G⟩:=G.push 1 6 rfl rfl rfl kr
 obtain ⟨F,G⟩:=G.push 1 5 rfl rfl rfl kr
 obtain ⟨F,G⟩:=G.push 1 4 rfl rfl rfl kr
 obtain ⟨F,G⟩:=G.push 1 3 rfl rfl rfl kr
 have G:=G.turn 1 rfl (r':=RS.hp (Zmh g (.pointer (some ⟨b,0,none⟩)))) (fun _ _ _ _ h=>⟨(⟨mA,mB,mC,eA,kA,eB,kB,eC,kC⟩:FS),hI,h⟩)
 have G:=G.turn 2 rfl (r':=RS.hp (Zfh AA (RR++rdO g t o) mv)) (fun _ _ _ _ h=>⟨(es3,ck3),hR9,h⟩)
 refine ZfV hG G rfl .nil Zbm.none rfl rfl
def wwC (p:Int→Bool) (g:Zo):List (Zf×Int):=if ZO g then wwA p g.orders else []
def rdC (p:Int→Bool) (g:Zo):List Zf:=if ZO g then rdH p g g.txs else []
theorem ZqE {g:Zo} {v:Value} {w:World} {f y:Ys} (h:(Zmh g v).p w f y):∃ b,v = .pointer (some ⟨b,0,none⟩):=by
 obtain ⟨s,_,q⟩:=h
 exact HP.star_pt q
theorem ZnJ (g : Zo) (hsm : ZbR g) (p : Int → Bool) (f : FuncId) (fn : Func) (cps : List PV) (hf : prog.funcs[f]? = some fn) (hb : fn.body.isSome = true) (hnn : (fn.name == "runtime.NumGoroutine") = false) (hw : ∀ x, FnP prog f (.int .i64 x :: cps) (.bool (p x))) : FnG prog 78 1 [.agg (Zu g), .clos f cps] [.star []] (PV.one) (fun v => [Zfh (wwC p g) (rdC p g) v]) := by
 refine FnG.mk func78 rfl ntmps78 rfl kr fun B F0 a w F Z hG G=>?_
 have hs:=hsm.1
 have hsl:=hs.1
 have hso:=hsm.2
 have hol1:=hso.1
 obtain ⟨F,G⟩:=G.nM [1,0] [0]
 refine Ya (Zb G (qx 101 r1 (qC qZ)) Z [4,2,1] [101,0] (fun _=>rfl) (fun _=>rfl) fun τ a w F G=>?_)
 try dsimp only [RS.sub,SF.sub,CF.sub,csub,Anc.sub,List.map,zCF,Zu,rTx,ZP,ZN,Zn,rOp] at G
 generalize τ 2=v2 at G
 refine Za (Ya (Zb G (qf (ZaO (ek:=(fun n:Int=>PV.int .i64 n)) (ok:=(fun k=>∀ x ∈ Zag k,inR .i64 x)) (kv:=(kvS Zag)) 102) trivial qz (qO rr qZ)) Z [5,4,2,1] [102,101,0] (fun _=>rfl) (fun _=>rfl) fun τ a w F G=>?_))
 try dsimp only [RS.sub,SF.sub,CF.sub,csub,Anc.sub,List.map,Ze,xL,xM,Nat.reduceAdd,xD,xE,xT,xU,xC,xN,zCF,Zu,rTx,ZP,ZN,Zn,rOp] at G
 generalize τ 14=v14 at G
 refine Za (Ya (Ya (rZ G (qe 2 101 r1 r1 (qf (oP (ZcR g hsm) func19 (Args.one (.pagg .t))) r1 qz (qf (o_not .t) r1 qz qZ))) Z [17,5,4,2,1] [102,101,0] fun G=>?_)))
 refine Zc G rfl (fun hc0=>?_) (fun hc0=>?_)
 ·skip
  have hr:¬ ZO g:=by simpa using hc0
  have hgA:wwC p g = []:=Yb hr
  have hgR:rdC p g = []:=Yb hr
  replace G:=G.turn 102 rfl (r':=RS.hp (Zfh (wwC p g) (rdC p g) v14)) (fun _ _ _ _ h=>⟨([],0),by rw [hgA,hgR];exact ZkH,h⟩)
  obtain ⟨F,G⟩:=G.nM [17,5,4,2,1] [102,101,0]
  refine Ya (rZ G (qR rr (qO rr qZ)) Z [5,4,2,1] [102,101,0] fun G=>(Yh (Zl ?_)))
  obtain ⟨F,G⟩:=G.rename 102 1 rfl rfl
  refine Zab (h':=fun v=>Zfh (wwC p g) (rdC p g) v) hG G rfl (.tmp rfl .nil) (.one .one) rfl
 have hr:ZO g:=by simpa using hc0
 have hgA:wwC p g=wwA p g.orders:=Ye hr
 have hgR:rdC p g=rdH p g g.txs:=Ye hr
 refine Yf (Za (Ya ?_))
 replace G:=G.fresh 103 rfl
 refine Zb G (qe 2 101 r1 r1 (qf (ZaM 103 (ZsY g hsm) func135 rfl kr (Args.one (.pagg .t)) PV.ptr_one) r1 r1 (qO rr qZ))) Z [6,5,4,2,1] [103,102,101,0] (fun _=>rfl) (fun _=>rfl) fun τ a w F G=>?_
 try dsimp only [RS.sub,SF.sub,CF.sub,csub,Anc.sub,List.map,xD,xE,xT,xU,ldSF,Zu,rTx,ZP,ZN,Zn,rOp] at G
 generalize τ 20=v20 at G
 obtain ⟨_,_,_,ho⟩:=G.obGet 103 rfl
 obtain ⟨b,rfl⟩:=ZqE ho
 clear ho
 replace G:=G.turn 103 rfl (r':=RS.hp (Zmh g (.pointer (some ⟨b,0,none⟩)))) (fun _ _ _ _ h=>h)
 obtain ⟨F,G⟩:=G.nM [6,5,4,2,1] [103,102,101,0]
 refine Za (Ya (Ya (rZ G (qg 1 101 r1 r1 (qa 101 r1 r1 (qu Yb5 r1 (qJ qZ)))) Z [24,23,22,6,5,4,2,1] [103,102,101,0] fun G=>Yg ?_)))
 refine Zm (σ:=(Nat)×(List (GE Zf Int))×(Nat)) [1,2,4,5,6,22,23] [0,101,103] (fun s=>[(24,.pv (.int .i64 (s.1:Int)))]) (fun s=>[(102,.ob (.val v14) (Zbv (fun n:Int=>PV.int .i64 n) (fun k=>∀ x ∈ Zag k,inR .i64 x) (kvS Zag) s.2.1 s.2.2))]) (fun s=>s.1≤g.orders.length∧(Zgj s.2.1 (wwA p (g.orders.take s.1)) [])) (fun s=>g.orders.length - s.1) ((0),([]),(0)) G ⟨rfl,rfl,rfl,rfl,rfl,rfl,rfl,rfl,tv⟩ ⟨rfl,rfl,rfl,rfl,tv⟩ ⟨Yx _,ZkH⟩ ?_
 clear G;intro s a w F hC G
 obtain ⟨i,es,ck⟩:=s
 try dsimp only at hC
 obtain ⟨F,G⟩:=G.nM [24,23,22,6,5,4,2,1] [103,102,101,0]
 try dsimp only at G
 obtain ⟨hi,hq⟩:=hC
 have hol:=fun hil:i<g.orders.length=>hso.at hil
 refine Ya (rZ G (qL r2) Z [25,24,23,22,6,5,4,2,1] [103,102,101,0] fun G=>Ya ?_)
 refine Zc G rfl (fun hc1=>?_) (fun hc1=>?_)
 ·skip
  have hil:i<g.orders.length:=by simp at hc1;omega
  have hio:=hil
  have hcn:=hq
  have hox:=hol hil
  refine Yf (Za (Ya (Yg (Ya (Zb G (qy 2 Yb5 r2 (qf (oR true 2 .t) r1 qz (qf (oH [.int .i64 0,.slice none 0 0] 104) trivial qz (qS 2 104 r2 r1 qZ)))) Z [24,23,22,8,6,5,4,2,1] [104,103,102,101,0] (fun _=>rfl) (fun _=>rfl) fun τ a w F G=>?_)))))
  try dsimp only [RS.sub,SF.sub,CF.sub,csub,Anc.sub,List.map,Ze,xL,xM,Nat.reduceAdd,xD,xE,xT,xU,xC,xN,zCF,ldSF,Zu,rTx,ZP,ZN,Zn,rOp] at G
  generalize τ 8=v8 at G
  try simp only [Yd] at G
  refine Za (Ya (rZ G (qI qZ) Z [24,23,22,9,8,6,5,4,2,1] [104,103,102,101,0] fun G=>Yg ?_))
  replace G:=G.ent (i:=9) (s':=.pv (.int .i64 ((0+1:Nat):Int))) rfl (.int rfl)
  refine Zm (σ:=Nat×(List (GE Zf Int))×Nat) [1,2,4,5,6,8,22,23,24] [0,101,103,104] (fun s=>[(9,.pv (.int .i64 ((s.1+1:Nat):Int)))]) (fun s=>[(102,.ob (.val v14) (Zbv (fun n:Int=>PV.int .i64 n) (fun k=>∀ x ∈ Zag k,inR .i64 x) (kvS Zag) s.2.1 s.2.2))]) (fun s=>s.1≤(Nn g.orders i).txs.length∧(0<s.1→p (Nn g.orders i).key=true∧s.1+1≤(Nn g.orders i).txs.length)∧Zgj s.2.1 (wwA p (g.orders.take i)++wwO (Nn g.orders i) s.1) []) (fun s=>(Nn g.orders i).txs.length - s.1) ((0),(es),(ck)) G ⟨rfl,rfl,rfl,rfl,rfl,rfl,rfl,rfl,rfl,rfl,tv⟩ ⟨rfl,rfl,rfl,rfl,rfl,tv⟩ ⟨Yx _,fun h9=>absurd h9 (Nat.lt_irrefl 0),by show Zgj _ (wwA p (g.orders.take i) ++ []) [];rw [YM];exact hcn⟩ ?_
  clear G;intro s a w F hC G
  obtain ⟨j,es3,ck3⟩:=s
  try dsimp only at hC
  obtain ⟨F,G⟩:=G.nM [24,23,22,9,8,6,5,4,2,1] [104,103,102,101,0]
  try dsimp only at G
  obtain ⟨hj,hjp,hq⟩:=hC
  have hwj:IntKind.wrap .i64 (((j+1:Nat):Int) - 1)=(j:Int):=by rw [Zz ow];omega
  refine Ya (Ya (rZ G (qR rr (qg 1 104 r1 r1 (qa 104 r1 r1 (qu Yb0 r1 (qf (Zar .t .t) r2 qz (qR rr (qm rfl rfl rfl rfl (qv 0 104 rfl r2 r1 (qw 104 rfl r2 r1 (qk rfl (fun h=>Z6 (avs:=[.int .i64 (Nn g.orders i).key]) (.w h) (hw (Nn g.orders i).key) hf hb hnn (Args.one (.w h))) r3 qz (qf (ZH .t .t) r2 qz qZ))))))))))) Z [38,24,23,22,9,8,6,5,4,2,1] [104,103,102,101,0] fun G=>?_))
  refine Zc G rfl (fun hc2=>?_) (fun hc2=>?_)
  ·skip
   have hst:j+1<(Nn g.orders i).txs.length∧p (Nn g.orders i).key=true:=by have h9:=hc2;simp at h9;exact ⟨by omega,h9.2⟩
   refine Yf (Za (Ya (Yg (ZB G (qR rr (qg 1 104 r1 r1 (qa 104 r1 r1 (qR rr (qf (o_sub .t qi) r1 qz (qf (o_indexAddr_sl (sz:=1) (.mk Yb0 kr) (by intro x;rfl) .t .t (by rw [hwj];omega) (by rw [hwj];omega)) r2 qz (qf (oR false 1 .t) r1 qz (qg 1 104 r1 r1 (qa 104 r1 r1 (qR rr (qy 1 Yb0 r2 (qf (oR false 1 .t) r1 qz (qg 0 104 r1 r1 (qa 104 r1 r1 (qf (oB [(0,.tmp 47),(1,.tmp 52),(2,_),(3,.tmp 54)] [.int .i64 0,.int .i64 0,.int .i64 0,.int .i64 0] [(0,1),(1,1),(2,1),(3,1)] (.one rfl .t one_int kr (.one rfl .t one_int kr (.one rfl qi one_int kr (.one rfl .t one_int kr .nil))))) r3 qz (qf (o_mapUpdateG (ek:=(fun n:Int=>PV.int .i64 n)) 102 Ycc ZcF .is (ZI.agg (enc:=Zag) (k:=(⟨Nn (Nn g.orders i).txs (IntKind.wrap .i64 (((j+1:Nat):Int) - 1)).toNat,Nn (Nn g.orders i).txs ((j+1:Nat):Int).toNat,1,(Nn g.orders i).key⟩:Zf)) (.pagg .t) rfl) qi) r2 r1 qZ)))))))))))))))) Z [24,23,22,9,8,6,5,4,2,1] [104,103,102,101,0] rfl rfl fun a w F G=>?_))))
   try dsimp only [List.map,Ze,xL,xM,Nat.reduceAdd,xD,xE,xT,xU,xC,xN,zCF,ldSF,Zu,rTx,ZP,ZN,Zn,rOp] at G
   try simp only [Yd] at G
   rw [hwj] at G
   try simp only [Yd] at G
   obtain ⟨es4,hes4⟩:∃ z,z=(gPut (⟨Nn (Nn g.orders i).txs j,Nn (Nn g.orders i).txs (j+1),1,(Nn g.orders i).key⟩:Zf) 1 (es3,ck3)).1:=⟨_,rfl⟩
   obtain ⟨ck4,hck4⟩:∃ z,z=(gPut (⟨Nn (Nn g.orders i).txs j,Nn (Nn g.orders i).txs (j+1),1,(Nn g.orders i).key⟩:Zf) 1 (es3,ck3)).2:=⟨_,rfl⟩
   rw [← hes4,← hck4] at G
   have hR3:Zgj es4 (wwA p (g.orders.take i)++wwO (Nn g.orders i) (j+1)) []:=by rw [hes4,Zpi,← YS];exact ZrS hq
   refine Zj (Za (rZ G (qR rr (qp r1 (qO rr qZ))) Z [24,23,22,9,8,6,5,4,2,1] [104,103,102,101,0] fun G=>?_))
   have hC2:j+1≤(Nn g.orders i).txs.length∧(0<j+1→p (Nn g.orders i).key=true∧j+1+1≤(Nn g.orders i).txs.length)∧Zgj es4 (wwA p (g.orders.take i)++wwO (Nn g.orders i) (j+1)) []:=⟨by omega,fun _=>⟨hst.2,by omega⟩,hR3⟩
   replace G:=G.ent (i:=9) (s':=.pv (.int .i64 ((j+1+1:Nat):Int))) rfl (.int (Zd ow))
   obtain ⟨F,G⟩:=G.nM [24,23,22,8,6,5,4,2,1,9] [104,103,101,0,102]
   exact ⟨((j+1),(es4),(ck4)),F,hC2,G,by omega⟩
  have hst:p (Nn g.orders i).key=true→(Nn g.orders i).txs.length≤j+1:=fun hpk=>by have h9:=hc2;simp [hpk] at h9;omega
  obtain ⟨es2,hes2⟩:∃ z,z=es3:=⟨_,rfl⟩
  obtain ⟨ck2,hck2⟩:∃ z,z=ck3:=⟨_,rfl⟩
  rw [← hes2,← hck2] at G
  have hR2:Zgj es2 (wwA p (g.orders.take (i+1))) []:=by
    rw [hes2,Zp1 hio]
    by_cases hpk:p (Nn g.orders i).key=true
    · rw [Ye hpk,show (Nn g.orders i).txs.length - 1=j by (have:=hst hpk;by_cases hj0:0<j; (have:=(hjp hj0).2;omega);omega)];exact hq
    · rw [Yb hpk]
      have hj0:j=0:=by
        by_cases hj0:0<j
        · exact absurd (hjp hj0).1 hpk
        · omega
      rw [hj0] at hq;exact hq
  refine Yz (Zh (Zh (Zr (Zj (Za (rZ G (qp r1 (qR rr qZ)) Z [24,23,22,6,5,4,2,1] [104,103,102,101,0] fun G=>?_))))))
  replace G:=G.ent (i:=24) (s':=.pv (.int .i64 ((i+1:Nat):Int))) rfl (.int (Zd ow))
  obtain ⟨F,G⟩:=G.nM [23,22,6,5,4,2,1,24] [103,101,0,102]
  exact ⟨((i+1),(es2),(ck2)),F,⟨by omega,hR2⟩,G,by omega⟩
 have hil:i=g.orders.length:=by simp at hc1;omega
 rw [hil,YD] at hq
 replace G:=G.turn 102 rfl (r':=RS.hp (Zfh (wwA p g.orders) (rdH p g (g.txs.take 0)) v14)) (fun _ _ _ _ h=>⟨(es,ck),hq,h⟩)
 obtain ⟨F,G⟩:=G.nM [25,24,23,22,6,5,4,2,1] [103,102,101,0]
 refine Yz (Zh (Zh (Zr (Za (Ya (Ya (rZ G (qg 0 101 r1 r1 (qa 101 r1 r1 (qu Yb3 r1 (qJ qZ)))) Z [60,59,58,6,5,4,1] [103,102,101,0] fun G=>Yg ?_)))))))
 refine Zm (σ:=(Nat)) [1,4,5,6,58,59] [0,101,103] (fun s=>[(60,.pv (.int .i64 (s:Int)))]) (fun s=>[(102,RS.hp (Zfh (wwA p g.orders) (rdH p g (g.txs.take s)) v14))]) (fun s=>s≤g.txs.length∧(True)) (fun s=>g.txs.length - s) (0) G ⟨rfl,rfl,rfl,rfl,rfl,rfl,rfl,tv⟩ ⟨rfl,rfl,rfl,rfl,tv⟩ ⟨Yx _,tv⟩ ?_
 clear G;intro i a w F hC G
 try dsimp only at hC
 obtain ⟨F,G⟩:=G.nM [60,59,58,6,5,4,1] [103,102,101,0]
 try dsimp only at G
 obtain ⟨hi,hq⟩:=hC
 have hxl:=fun hil:i<g.txs.length=>hs.at hil
 refine Ya (rZ G (qL r2) Z [61,60,59,58,6,5,4,1] [103,102,101,0] fun G=>Ya ?_)
 refine Zc G rfl (fun hc3=>?_) (fun hc3=>?_)
 ·skip
  have hil:i<g.txs.length:=by simp at hc3;omega
  have hio:=hil
  have htl:=hxl hil
  have hsl:=hs.1
  have hrl:=Zmy (p:=p) (g:=g) hs i
  replace G:=G.turn 102 rfl (r':=RS.hp (Zfh (wwA p g.orders) (rdH p g (g.txs.take i)++rdT p g (Nn g.txs i) ((Nn g.txs i).ops.take 0)) v14)) (fun _ _ _ _ h=>by rw [List.take_zero,show rdT p g (Nn g.txs i) [] = [] from rfl,YM];exact h)
  obtain ⟨F,G⟩:=G.nM [61,60,59,58,6,5,4,1] [103,102,101,0]
  refine Yf (Za (Ya (Yg (Ya (Zb G (qy 3 Yb3 r2 (qf (oR true 3 .t) r1 qz (qf (oH [.int .i64 0,.bool false,.slice none 0 0] 105) trivial qz (qS 3 105 r2 r1 qZ)))) Z [60,59,58,11,6,5,4,1] [105,103,102,101,0] (fun _=>rfl) (fun _=>rfl) fun τ a w F G=>?_)))))
  try dsimp only [RS.sub,SF.sub,CF.sub,csub,Anc.sub,List.map,Ze,xL,xM,Nat.reduceAdd,xD,xE,xT,xU,xC,xN,zCF,ldSF,Zu,rTx,ZP,ZN,Zn,rOp] at G
  generalize τ 11=v11 at G
  try simp only [Yd] at G
  refine Za (Ya (rZ G (qg 2 105 r1 r1 (qa 105 r1 r1 (qu Yb2 r1 (qJ qZ)))) Z [67,66,65,60,59,58,11,6,5,4,1] [105,103,102,101,0] fun G=>Yg ?_))
  refine Zm (σ:=(Nat)) [1,4,5,6,11,58,59,60,65,66] [0,101,103,105] (fun s=>[(67,.pv (.int .i64 (s:Int)))]) (fun s=>[(102,RS.hp (Zfh (wwA p g.orders) (rdH p g (g.txs.take i)++rdT p g (Nn g.txs i) ((Nn g.txs i).ops.take s)) v14))]) (fun s=>s≤(Nn g.txs i).ops.length∧(True)) (fun s=>(Nn g.txs i).ops.length - s) (0) G ⟨rfl,rfl,rfl,rfl,rfl,rfl,rfl,rfl,rfl,rfl,rfl,tv⟩ ⟨rfl,rfl,rfl,rfl,rfl,tv⟩ ⟨Yx _,tv⟩ ?_
  clear G;intro j a w F hC G
  try dsimp only at hC
  obtain ⟨F,G⟩:=G.nM [67,66,65,60,59,58,11,6,5,4,1] [105,103,102,101,0]
  try dsimp only at G
  obtain ⟨hi,hq⟩:=hC
  refine Ya (rZ G (qL r2) Z [68,67,66,65,60,59,58,11,6,5,4,1] [105,103,102,101,0] fun G=>Ya ?_)
  refine Zc G rfl (fun hc4=>?_) (fun hc4=>?_)
  ·skip
   have hil:j<(Nn g.txs i).ops.length:=by simp at hc4;omega
   refine Yf (Za (Ya (Yg (Ya (Zb G (qy 4 Yb2 r2 (qf (oR true 4 .t) r1 qz (qf (oH [.bool false,.int .i64 0,.int .i64 0,.int .i64 0] 106) trivial qz (qS 4 106 r2 r1 qZ)))) Z [67,66,65,60,59,58,13,11,6,5,4,1] [106,105,103,102,101,0] (fun _=>rfl) (fun _=>rfl) fun τ a w F G=>?_)))))
   try dsimp only [RS.sub,SF.sub,CF.sub,csub,Anc.sub,List.map,Ze,xL,xM,Nat.reduceAdd,xD,xE,xT,xU,xC,xN,zCF,ldSF,Zu,rTx,ZP,ZN,Zn,rOp] at G
   generalize τ 13=v13 at G
   try simp only [Yd] at G
   refine Za (Ya (rZ G (qg 1 105 r1 r1 (qa 105 r1 r1 (qR rr (qv 0 106 rfl r2 r1 (qw 106 rfl r2 r1 (qf (ZH .t .t) r2 qz (qR rr (qm rfl rfl rfl rfl (qv 1 106 rfl r2 r1 (qw 106 rfl r2 r1 (qk rfl (fun h=>Z6 (avs:=[.int .i64 (Nn (Nn g.txs i).ops j).key]) (.w h) (hw (Nn (Nn g.txs i).ops j).key) hf hb hnn (Args.one (.w h))) r3 qz (qf (ZH .t .t) r2 qz qZ)))))))))))) Z [82,67,66,65,60,59,58,13,11,6,5,4,1] [106,105,103,102,101,0] fun G=>?_))
   refine Zc G rfl (fun hc5=>?_) (fun hc5=>?_)
   ·skip
    have hpr:((Nn g.txs i).done && ((Nn (Nn g.txs i).ops j).read && p (Nn (Nn g.txs i).ops j).key))=true:=by have h9:=hc5;simp at h9;simp [h9]
    have hRR:(rdH p g (g.txs.take i)++rdT p g (Nn g.txs i) ((Nn g.txs i).ops.take j)).length≤10000000:=by have h9:=Zoj p g (Nn g.txs i) ((Nn g.txs i).ops.take j);rw [Yj] at h9;rw [Yc];omega
    refine Zg G (qR rr (qe 3 105 r1 r1 (qe 4 106 r1 r1 (qR rr (qf (Znn 103 102 (ZrN b g (Nn g.txs i) (Nn (Nn g.txs i).ops j) _ _ _ hRR) func136 rfl kr rfl (Args.four .t (.pagg .t) (.pagg .t) .t)) r4 r2 qZ))))) Z [67,66,65,60,59,58,11,6,5,4,1] [106,105,103,102,101,0] rfl rfl fun a w F G=>?_
    replace G:=G.turn 102 rfl (r':=RS.hp (Zfh (wwA p g.orders) (rdH p g (g.txs.take i)++rdT p g (Nn g.txs i) ((Nn g.txs i).ops.take (j+1))) v14)) (fun _ _ _ _ h=>by rw [Zj9 hil,Ye hpr,← YS];exact h)
    obtain ⟨F,G⟩:=G.nM [67,66,65,60,59,58,11,6,5,4,1] [106,105,103,102,101,0]
    refine Zj (Za (rZ G (qp r1 (qR rr qZ)) Z [67,66,65,60,59,58,11,6,5,4,1] [106,105,103,102,101,0] fun G=>?_))
    replace G:=G.ent (i:=67) (s':=.pv (.int .i64 ((j+1:Nat):Int))) rfl (.int (Zd ow))
    obtain ⟨F,G⟩:=G.nM [66,65,60,59,58,11,6,5,4,1,67] [105,103,101,0,102]
    exact ⟨(j+1),F,⟨by omega,tv⟩,G,by omega⟩
   have hpr:¬ ((Nn g.txs i).done && ((Nn (Nn g.txs i).ops j).read && p (Nn (Nn g.txs i).ops j).key))=true:=by intro h8;simp at h8;have h9:=hc5;simp [h8] at h9
   replace G:=G.turn 102 rfl (r':=RS.hp (Zfh (wwA p g.orders) (rdH p g (g.txs.take i)++rdT p g (Nn g.txs i) ((Nn g.txs i).ops.take (j+1))) v14)) (fun _ _ _ _ h=>by rw [Zj9 hil,Yb hpr,YM];exact h)
   obtain ⟨F,G⟩:=G.nM [82,67,66,65,60,59,58,13,11,6,5,4,1] [106,105,103,102,101,0]
   refine Yf (Zj (Za (rZ G (qp r1 (qR rr qZ)) Z [67,66,65,60,59,58,11,6,5,4,1] [106,105,103,102,101,0] fun G=>?_)))
   replace G:=G.ent (i:=67) (s':=.pv (.int .i64 ((j+1:Nat):Int))) rfl (.int (Zd ow))
   obtain ⟨F,G⟩:=G.nM [66,65,60,59,58,11,6,5,4,1,67] [105,103,101,0,102]
   exact ⟨(j+1),F,⟨by omega,tv⟩,G,by omega⟩
  have hil:j=(Nn g.txs i).ops.length:=by simp at hc4;omega
  replace G:=G.turn 102 rfl (r':=RS.hp (Zfh (wwA p g.orders) (rdH p g (g.txs.take (i+1))) v14)) (fun _ _ _ _ h=>by rw [ZpY hio];rw [hil,YD] at h;exact h)
  obtain ⟨F,G⟩:=G.nM [68,67,66,65,60,59,58,11,6,5,4,1] [105,103,102,101,0]
  refine Yz (Zh (Zh (Zr (Zj (Za (rZ G (qp r1 (qR rr qZ)) Z [60,59,58,6,5,4,1] [105,103,102,101,0] fun G=>?_))))))
  replace G:=G.ent (i:=60) (s':=.pv (.int .i64 ((i+1:Nat):Int))) rfl (.int (Zd ow))
  obtain ⟨F,G⟩:=G.nM [59,58,6,5,4,1,60] [103,101,0,102]
  exact ⟨(i+1),F,⟨by omega,tv⟩,G,by omega⟩
 have hil:i=g.txs.length:=by simp at hc3;omega
 replace G:=G.turn 102 rfl (r':=RS.hp (Zfh (wwC p g) (rdC p g) v14)) (fun _ _ _ _ h=>by rw [hgA,hgR];rw [hil,YD] at h;exact h)
 obtain ⟨F,G⟩:=G.nM [61,60,59,58,6,5,4,1] [103,102,101,0]
 refine Yz (Zh (Zh (Zr (Za (Ya (rZ G (qR rr (qO rr qZ)) Z [4] [103,102,101,0] fun G=>Yh ?_))))))
 obtain ⟨F,G⟩:=G.rename 102 1 rfl rfl
 refine Zab (h':=fun v=>Zfh (wwC p g) (rdC p g) v) hG G rfl (.tmp rfl .nil) (.one .one) rfl
end Go.Proofs.YtlkpllemoepamaaGreat
