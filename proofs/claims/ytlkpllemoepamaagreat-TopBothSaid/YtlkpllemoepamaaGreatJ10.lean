/- Laws and walks. No condition beyond what each says. -/
import Derived.Test.YtlkpllemoepamaaGreatJ9
namespace Go.Proofs.YtlkpllemoepamaaGreat
open Go Go.Gm Tryz
set_option linter.unusedVariables false
set_option linter.unusedSimpArgs false
set_option maxHeartbeats 4000000
set_option maxRecDepth 8000
def bH (v ad:Value) (l:List UInt8):HP:=.ex fun rv=>.and (l = []→rv = .slice none 0 0) (.star [.pt (.val v) 115 [.pv (.is ad),.pv (.is rv)],.ob (.val rv) (ZC 5 1 rC l)])
def ZaT (v:Value) (l:List UInt8):HP:=.ex fun ad=>.and (ad = .pointer none∨ad=v) (bH v ad l)
theorem FnG.cases {P:Program} {f:FuncId} {args:List PV} {h h1 h2:HP} {q:PV} {qr:Value→List HP} (hh:∀ w fb y,h.p w fb y→h1.p w fb y∨h2.p w fb y) (k1:FnG P f 1 args [h1] q qr) (k2:FnG P f 1 args [h2] q qr):FnG P f 1 args [h] q qr:=fun w F vs hw hle hvs hpr=>by
 rcases hh w (F 1) (U F) (hpr 0 h rfl) with hx | hx
 ·exact k1 w F vs hw hle hvs (fun i h' hi=>by
  match i,hi with
  | 0,hi=>simp at hi;subst hi;exact hx)
 ·exact k2 w F vs hw hle hvs (fun i h' hi=>by
  match i,hi with
  | 0,hi=>simp at hi;subst hi;exact hx)
theorem Zf9 {v:Value} {l:List UInt8} (w:World) (fb y:Ys) (h:(ZaT v l).p w fb y):(bH v (.pointer none) l).p w fb y∨(bH v v l).p w fb y:=by
 obtain ⟨ad,h1,h2⟩:=h
 rcases h1 with rfl | rfl
 ·exact .inl h2
 ·exact .inr h2
theorem copy0 (b:Nat) (l:List UInt8):FnG prog 121 1 [.is (.pointer (some ⟨b,0,none⟩))] [bH (.pointer (some ⟨b,0,none⟩)) (.pointer none) l] (.any) (fun _=>[bH (.pointer (some ⟨b,0,none⟩)) (.pointer (some ⟨b,0,none⟩)) l]):=by
 refine FnG.mk func121 rfl ntmps121 rfl kr fun B F0 a w F Z hG G=>?_
 obtain ⟨rv,G⟩:=G.open_ex 1 rfl
 obtain ⟨hI,G⟩:=G.open_and 1 rfl
 obtain ⟨F,G⟩:=G.peel 1 2 rfl rfl
 obtain ⟨F,G⟩:=G.peel 1 3 rfl rfl
 obtain ⟨F,G⟩:=G.nM [0] [3,2,0]
 refine Ya (rZ G (qR rr (qf (Zt 2 .is (by rfl)) r1 r1 (qf (oF 0 2 .adr) r1 r1 (qa 2 r1 r1 (qf (Ziz _ underlying112 rfl .t) r1 qz qZ))))) Z [6,0] [3,2,0] fun G=>?_)
 refine Zc G rfl (fun hc0=>?_) (fun hc0=>?_)
 ·refine Zg G (qR rr (qR rr (qf (Zhx 2 underlying112 underlying235 kr kr .t) r1 r1 (qf (ZlE func165 kr kr kr kr .t) r1 qz (qf (ZjJ 2 underlying235 underlying112 kr kr .t) r1 r1 (qf (Zt 2 .is (by rfl)) r1 r1 (qf (oF 0 2 .adr) r1 r1 (qf (ZaQ 2 .adr .t one_is kr kr) r2 r1 qZ)))))))) Z [] [3,2,0] rfl rfl fun a w F G=>?_
  have G:=G.fresh 1 rfl
  obtain ⟨F,G⟩:=G.push 1 3 rfl rfl rfl kr
  obtain ⟨F,G⟩:=G.push 1 2 rfl rfl rfl kr
  have G:=G.turn 1 rfl (r':=RS.hp (bH (.pointer (some ⟨b,0,none⟩)) (.pointer (some ⟨b,0,none⟩)) l)) (fun _ _ _ _ h=>⟨_,hI,h⟩)
  refine Zbb hG G rfl .nil Zbm.any rfl
 simp at hc0
theorem copy1 (b:Nat) (l:List UInt8):FnG prog 121 1 [.is (.pointer (some ⟨b,0,none⟩))] [bH (.pointer (some ⟨b,0,none⟩)) (.pointer (some ⟨b,0,none⟩)) l] (.any) (fun _=>[bH (.pointer (some ⟨b,0,none⟩)) (.pointer (some ⟨b,0,none⟩)) l]):=by
 refine FnG.mk func121 rfl ntmps121 rfl kr fun B F0 a w F Z hG G=>?_
 obtain ⟨rv,G⟩:=G.open_ex 1 rfl
 obtain ⟨hI,G⟩:=G.open_and 1 rfl
 obtain ⟨F,G⟩:=G.peel 1 2 rfl rfl
 obtain ⟨F,G⟩:=G.peel 1 3 rfl rfl
 obtain ⟨F,G⟩:=G.nM [0] [3,2,0]
 refine Ya (rZ G (qR rr (qf (Zt 2 .is (by rfl)) r1 r1 (qf (oF 0 2 .adr) r1 r1 (qa 2 r1 r1 (qf (Ziz _ underlying112 rfl .t) r1 qz qZ))))) Z [6,0] [3,2,0] fun G=>?_)
 refine Zc G rfl (fun hc0=>?_) (fun hc0=>?_)
 ·simp at hc0
 refine Ya (rZ G (qR rr (qf (Zt 2 .is (by rfl)) r1 r1 (qf (oF 0 2 .adr) r1 r1 (qa 2 r1 r1 (qR rr (qf (ZlI underlying112 kr .t .t) r2 qz qZ)))))) Z [19] [3,2,0] fun G=>?_)
 refine Zc G rfl (fun hc1=>?_) (fun hc1=>?_)
 ·simp at hc1
 refine Yf ?_
 have G:=G.fresh 1 rfl
 obtain ⟨F,G⟩:=G.push 1 3 rfl rfl rfl kr
 obtain ⟨F,G⟩:=G.push 1 2 rfl rfl rfl kr
 have G:=G.turn 1 rfl (r':=RS.hp (bH (.pointer (some ⟨b,0,none⟩)) (.pointer (some ⟨b,0,none⟩)) l)) (fun _ _ _ _ h=>⟨_,hI,h⟩)
 refine Zbb hG G rfl .nil Zbm.any rfl
theorem Zs3 (b:Nat) (l:List UInt8):FnG prog 121 1 [.is (.pointer (some ⟨b,0,none⟩))] [ZaT (.pointer (some ⟨b,0,none⟩)) l] .any (fun _=>[bH (.pointer (some ⟨b,0,none⟩)) (.pointer (some ⟨b,0,none⟩)) l]):=FnG.cases Zf9 (copy0 b l) (copy1 b l)
theorem Zch (b:Nat) (l:List UInt8) (hl:l.length≤1000000000) (x:List UInt8) (hx:x≠[]) (hxl:x.length≤1000000000):FnG prog 72 1 [.is (.pointer (some ⟨b,0,none⟩)),.bs x] [ZaT (.pointer (some ⟨b,0,none⟩)) l] (.any) (fun _=>[bH (.pointer (some ⟨b,0,none⟩)) (.pointer (some ⟨b,0,none⟩)) (l++x)]):=by
 refine FnG.mk func72 rfl ntmps72 rfl kr fun B F0 a w F Z hG G=>Ya ?_
 refine rZ G (qI (qC qZ)) Z [5,4,1,0] [1,0] fun G=>Ya ?_
 refine Zg G (qR rr (qf (Z0 1 (Zs3 b l) func121 rfl kr (Args.one .t)) r1 r1 qZ)) Z [5,4,1,0] [1,0] rfl rfl fun a w F G=>?_
 obtain ⟨rv,G⟩:=G.open_ex 1 rfl
 obtain ⟨hI,G⟩:=G.open_and 1 rfl
 obtain ⟨F,G⟩:=G.peel 1 2 rfl rfl
 obtain ⟨F,G⟩:=G.peel 1 3 rfl rfl
 obtain ⟨F,G⟩:=G.nM [5,4,1,0] [3,2,0]
 refine Za (Ya (Zb G (qR rr (qR rr (qf (Zt 2 .is (by rfl)) r1 r1 (qf (oF 1 2 .adr) r1 r1 (qa 2 r1 r1 (qR rr (qf (Zie 3 underlying113 Ycd kr .is .t ow) ⟨rfl,rfl,tv⟩ ⟨rfl,tv⟩ (qf (Zt 2 .is (by rfl)) r1 r1 (qf (oF 1 2 .adr) r1 r1 (qf (ZaL 2 .adr kr kr) r2 r1 qZ)))))))))) Z [5,4,1] [3,2,0] (fun _=>rfl) (fun _=>rfl) fun τ a w F G=>?_))
 try dsimp only [RS.sub,SF.sub,CF.sub,csub,Anc.sub,List.map,Ze,xL,xM,Nat.reduceAdd,xD,xE,xT,xU,xC,xN,zCF,ldSF] at G
 generalize τ 14=v14 at G
 refine Za (Ya (rZ G (qR rr (qf (Zpa Ycd .t) r1 qz (qO rr (qC qZ)))) Z [5,4] [3,2,0] fun G=>Yh ?_))
 have G:=G.fresh 1 rfl
 obtain ⟨F,G⟩:=G.push 1 3 rfl rfl rfl kr
 obtain ⟨F,G⟩:=G.push 1 2 rfl rfl rfl kr
 have G:=G.turn 1 rfl (r':=RS.hp (bH (.pointer (some ⟨b,0,none⟩)) (.pointer (some ⟨b,0,none⟩)) (l++x))) (fun _ _ _ _ h=>⟨_,(by intro hh;exact absurd (List.append_eq_nil_iff.1 hh).2 hx),h⟩)
 refine Zbb hG G rfl (.tmp rfl (.tmp rfl .nil)) Zbm.any rfl
theorem ZsH (b:Nat):FnG prog 75 1 [.is (.pointer (some ⟨b,0,none⟩))] [ZaT (.pointer (some ⟨b,0,none⟩)) []] (.bs []) (fun _=>[HP.star []]):=by
 refine FnG.mk func75 rfl ntmps75 rfl kr fun B F0 a w F Z hG G=>?_
 obtain ⟨ad,G⟩:=G.open_ex 1 rfl
 obtain ⟨hA,G⟩:=G.open_and 1 rfl
 obtain ⟨rv,G⟩:=G.open_ex 1 rfl
 obtain ⟨hI,G⟩:=G.open_and 1 rfl
 obtain rfl:=hI rfl
 obtain ⟨F,G⟩:=G.peel 1 2 rfl rfl
 obtain ⟨F,G⟩:=G.peel 1 3 rfl rfl
 obtain ⟨F,G⟩:=G.nM [0] [3,2,0]
 refine Ya (rZ G (qf (oN (.cs kr)) trivial qz qZ) Z [2,0] [3,2,0] fun G=>Ya ?_)
 refine ZB G (qR rr (qf (Zt 2 .is (by rfl)) r1 r1 (qf (oF 1 2 .adr) r1 r1 (qa 2 r1 r1 (qf (ZfR .t) r1 qz (qR rr (qf (Zt 2 .is (by rfl)) r1 r1 (qf (oF 1 2 .adr) r1 r1 (qa 2 r1 r1 (qf (Zav 3 underlying113 .is) r1 r1 (qf (ZdO .t .t) r2 qz (qO rr qZ)))))))))))) Z [2] [3,2,0] rfl rfl fun a w F G=>?_
 try dsimp only [List.map,xD,xE,xT,xU,ldSF] at G
 refine Za (Yh ?_)
 have G:=G.fresh 1 rfl
 refine Zbb (h':=HP.star []) hG G rfl (.tmp rfl .nil) (.one .refl) rfl
theorem Zsx (b:Nat) (l:List UInt8) (hne:l≠[]):FnG prog 75 1 [.is (.pointer (some ⟨b,0,none⟩))] [ZaT (.pointer (some ⟨b,0,none⟩)) l] (.bs l) (fun _=>[HP.star []]):=by
 refine FnG.mk func75 rfl ntmps75 rfl kr fun B F0 a w F Z hG G=>?_
 obtain ⟨ad,G⟩:=G.open_ex 1 rfl
 obtain ⟨hA,G⟩:=G.open_and 1 rfl
 obtain ⟨rv,G⟩:=G.open_ex 1 rfl
 obtain ⟨hI,G⟩:=G.open_and 1 rfl
 obtain ⟨F,G⟩:=G.peel 1 2 rfl rfl
 obtain ⟨F,G⟩:=G.peel 1 3 rfl rfl
 obtain ⟨F,G⟩:=G.nM [0] [3,2,0]
 refine Ya (rZ G (qf (oN (.cs kr)) trivial qz qZ) Z [2,0] [3,2,0] fun G=>Ya ?_)
 refine ZB G (qR rr (qf (Zt 2 .is (by rfl)) r1 r1 (qf (oF 1 2 .adr) r1 r1 (qa 2 r1 r1 (qf (ZjP 3 hne .is (by rfl)) r1 r1 (qR rr (qf (Zt 2 .is (by rfl)) r1 r1 (qf (oF 1 2 .adr) r1 r1 (qa 2 r1 r1 (qf (Zav 3 underlying113 .is) r1 r1 (qf (Zgb 3 underlying176 kr hne .t) r2 r1 (qO rr qZ)))))))))))) Z [2] [3,2,0] rfl rfl fun a w F G=>?_
 try dsimp only [List.map,xD,xE,xT,xU,ldSF] at G
 refine Za (Yh ?_)
 have G:=G.fresh 1 rfl
 refine Zbb (h':=HP.star []) hG G rfl (.tmp rfl .nil) (.one .refl) rfl
theorem Zpy (b:Nat) (l:List UInt8):FnG prog 75 1 [.is (.pointer (some ⟨b,0,none⟩))] [ZaT (.pointer (some ⟨b,0,none⟩)) l] (.bs l) (fun _=>[HP.star []]):=by
 by_cases h:l = []
 ·subst h;exact ZsH b
 ·exact Zsx b l h
theorem Zrv (u:Nat):ZhF u≠[]:=by unfold ZhF;simp
theorem Zp4 (n:Int):Zer n≠[]:=by
 unfold Zer
 split
 ·simp
 ·simpa using Zrv _
theorem Zb2 {n:Int} (h : -9223372036854775808≤n∧n≤9223372036854775807):(Zer n).length≤21:=by
 have:=ZjW (Zhr h)
 unfold Zer
 split <;> simp <;> omega
def ZqA (e:Zf):List UInt8:=((([32] ++ ZiR e.kind)++Zer e.key) ++ [32])++Zer e.dst
def Zfk (l:List Zf) (i:Nat):List UInt8:=Zer (Nn l 0).src++(l.take i).flatMap ZqA
def Zf3 (l:List Zf) (i:Nat):List UInt8:=if i=0 then [] else Zfk l i
def ZfC (e:Zf):Prop:=(-9223372036854775808≤e.src∧e.src≤9223372036854775807)∧(-9223372036854775808≤e.dst∧e.dst≤9223372036854775807) ∧ -9223372036854775808≤e.key∧e.key≤9223372036854775807
theorem Zip (k:Int):(ZiR k).length≤2:=by
 unfold ZiR
 repeat' split
 all_goals simp
theorem ZjV {e:Zf} (h:ZfC e):(ZqA e).length≤50:=by
 have h1:=Zb2 h.2.2
 have h2:=Zb2 h.2.1
 have h3:=Zip e.kind
 unfold ZqA
 simp only [Yc,Yk,Yv]
 omega
theorem Zoh {l:List Zf} (h:∀ e ∈ l,ZfC e) {i:Nat} (hi:i<l.length):(Zfk l i).length≤50+50*i:=by
 have h1:=Zb2 (h _ (nth_mem (q:=l) (k:=0) ow)).1
 have key:∀ m:List Zf,(∀ e ∈ m,ZfC e)→(m.flatMap ZqA).length≤50*m.length:=by
  intro m
  induction m with
  | nil=>intro _;simp
  | cons e m ih=>
   intro hm
   have:=ih fun x hx=>hm x (by simp [hx])
   have:=ZjV (hm e (by simp))
   rw [YV,Yc,Yk];omega
 have h2:=key (l.take i) fun e he=>h e (Yap he)
 have h3:(l.take i).length≤i:=by rw [Yj];omega
 unfold Zfk
 rw [Yc];omega
theorem Zgt {l:List Zf} {i:Nat} (hi:i<l.length):Zfk l i++ZqA (Nn l i)=Zf3 l (i+1):=by
 unfold Zf3 Zfk
 rw [Yb ow,Zs hi,YQ,YS];simp
theorem ZnD {l:List Zf} {i:Nat} (h:¬ i=0):Zf3 l i=Zfk l i:=Yb h
theorem Zro (l:List Zf) (hl:l.length≤1000000) (hr:∀ e ∈ l,ZfC e):FnP prog 34 [.sl Zp l] (.bs (Zf3 l l.length)):=by
 refine FnP.mk func34 rfl ntmps34 rfl fun B a w F Z hfr G=>Ya ?_
 refine rZ G (qf (oN (.cs kr)) trivial qz qZ) Z [2,0] [0] fun G=>Ya ?_
 refine Zb G (qf (oH [.pointer none,.slice none 0 0] 101) trivial qz qZ) Z [3,2,0] [101,0] (fun _=>rfl) (fun _=>rfl) fun τ a w F G=>?_
 try dsimp only [RS.sub,SF.sub,CF.sub,csub,Anc.sub,List.map,zCF,Zp] at G
 generalize τ 3=v3 at G
 obtain ⟨b,rfl⟩:=G.shape 101 rfl
 replace G:=G.fresh 9 rfl
 replace G:=G.turn 9 rfl (Zas (T:=5) (sz:=1) (R:=rC))
 replace G:=G.fresh 10 rfl
 obtain ⟨F,G⟩:=G.push 10 9 rfl rfl rfl kr
 obtain ⟨F,G⟩:=G.push 10 101 rfl rfl rfl kr
 replace G:=G.turn 10 rfl (r':=RS.hp (ZaT (.pointer (some ⟨b,0,none⟩)) [])) (fun _ _ _ _ h=>⟨_,.inl rfl,_,fun _=>rfl,h⟩)
 obtain ⟨F,G⟩:=G.nM [3,2,0] [10,0]
 refine Za (Ya (Ya (rZ G (qR rr (qu Yb1 r1 (qJ qZ))) Z [8,7,6,3,2] [10,0] fun G=>Yg ?_)))
 refine Zm (σ:=(Nat)) [2,3,6,7] [0] (fun s=>[(8,.pv (.int .i64 (s:Int)))]) (fun s=>[(10,RS.hp (ZaT (.pointer (some ⟨b,0,none⟩)) (Zf3 l s)))]) (fun s=>s≤l.length∧(True)) (fun s=>l.length - s) (0) G ⟨rfl,rfl,rfl,rfl,rfl,tv⟩ ⟨rfl,rfl,tv⟩ ⟨Yx _,tv⟩ ?_
 clear G;intro i a w F hC G
 try dsimp only at hC
 obtain ⟨F,G⟩:=G.nM [8,7,6,3,2] [10,0]
 try dsimp only at G
 obtain ⟨hi,hq⟩:=hC
 refine Ya (rZ G (qL r2) Z [9,8,7,6,3,2] [10,0] fun G=>Ya ?_)
 refine Zc G rfl (fun hc0=>?_) (fun hc0=>?_)
 ·have hil:i<l.length:=by simp at hc0;omega
  have hsm:=hr _ (nth_mem hil)
  have hcl:=Zoh hr hil
  have hel:=ZjV hsm
  have hx1:=Zb2 hsm.1
  have hx2:=Zb2 hsm.2.1
  have hx3:=Zb2 hsm.2.2
  have hx4:=Zip (Nn l i).kind
  refine Yf (Za (Ya (Yg (Ya (Zb G (qR rr (qy 4 Yb1 r2 (qf (oR true 4 .t) r1 qz (qf (oH [.int .i64 0,.int .i64 0,.int .i64 0,.int .i64 0] 102) trivial qz (qO rr (qS 4 102 r2 r1 qZ)))))) Z [8,7,6,5,4,3,2] [102,10,0] (fun _=>rfl) (fun _=>rfl) fun τ a w F G=>?_)))))
  try dsimp only [RS.sub,SF.sub,CF.sub,csub,Anc.sub,List.map,Ze,xL,xM,Nat.reduceAdd,xD,xE,xT,xU,xC,xN,zCF,ldSF,Zp] at G
  generalize τ 5=v5 at G
  try simp only [Yd] at G
  refine Za (Ya (Ya (rZ G (qR rr (qf (o_eql .t qi) r1 qz qZ)) Z [14,8,7,6,5,3,2] [102,10,0] fun G=>?_)))
  refine Zc G rfl (fun hc1=>?_) (fun hc1=>?_)
  ·have hi0:i=0:=by have h9:=Yw hc1;omega
   have hw0:Zf3 l i = []:=by rw [hi0];rfl
   rw [hw0] at G
   refine Zg G (qg 0 102 r1 r1 (qa 102 r1 r1 (qf (oP (ZiQ (Nn l i).src) func73 (Args.one .t)) r1 qz (qf (Z0 10 (Zch b [] (by simp) (Zer (Nn l i).src) (Zp4 _) ow) func72 rfl kr (Args.two .t .t)) r2 r1 qZ)))) Z [8,7,6,5,3,2] [102,10,0] rfl rfl fun a w F G=>?_
   replace G:=G.turn 10 rfl (r':=RS.hp (ZaT (.pointer (some ⟨b,0,none⟩)) (Zfk l i))) (fun _ _ _ _ h=>⟨_,.inr rfl,by rw [show Zfk l i = [] ++ Zer (Nn l i).src by rw [hi0];simp [Zfk]];exact h⟩)
   refine Za (ZB G (qg 2 102 r1 r1 (qa 102 r1 r1 (qf (oP (Zn0 (Nn l i).kind) func74 (Args.one .t)) r1 qz (qf (Zbl (.cs kr) .t (by simp only [Yc,Yk,Yv];omega)) r1 qz (qg 3 102 r1 r1 (qa 102 r1 r1 (qf (oP (ZiQ (Nn l i).key) func73 (Args.one .t)) r1 qz (qf (Zbl .t .t (by simp only [Yc,Yk,Yv];omega)) r2 qz (qf (Zbl .t (.cs kr) (by simp only [Yc,Yk,Yv];omega)) r1 qz (qg 1 102 r1 r1 (qa 102 r1 r1 (qf (oP (ZiQ (Nn l i).dst) func73 (Args.one .t)) r1 qz (qf (Zbl .t .t (by simp only [Yc,Yk,Yv];omega)) r2 qz (qf (Z0 10 (Zch b (Zfk l i) ow (ZqA (Nn l i)) (by unfold ZqA;simp) ow) func72 rfl kr (Args.two .t .t)) r2 r1 qZ)))))))))))))) Z [8,7,6,3,2] [10,0] rfl rfl fun a w F G=>?_)
   try dsimp only [List.map,xD,xE,xT,xU,ldSF,Zp] at G
   refine Zj (Za (rZ G (qp r1 (qR rr qZ)) Z [8,7,6,3,2] [10,0] fun G=>?_))
   replace G:=G.turn 10 rfl (r':=RS.hp (ZaT (.pointer (some ⟨b,0,none⟩)) (Zf3 l (i+1)))) (fun _ _ _ _ h=>⟨_,.inr rfl,by rw [← Zgt hil];exact h⟩)
   replace G:=G.ent (i:=8) (s':=.pv (.int .i64 ((i+1:Nat):Int))) rfl (.int (Zd ow))
   obtain ⟨F,G⟩:=G.nM [7,6,3,2,8] [0,10]
   exact ⟨(i+1),F,⟨by omega,tv⟩,G,by omega⟩
  have hi0:¬ i=0:=by have h9:=YG hc1;omega
  rw [ZnD hi0] at G
  refine Yf (Za (ZB G (qg 2 102 r1 r1 (qa 102 r1 r1 (qf (oP (Zn0 (Nn l i).kind) func74 (Args.one .t)) r1 qz (qf (Zbl (.cs kr) .t (by simp only [Yc,Yk,Yv];omega)) r1 qz (qg 3 102 r1 r1 (qa 102 r1 r1 (qf (oP (ZiQ (Nn l i).key) func73 (Args.one .t)) r1 qz (qf (Zbl .t .t (by simp only [Yc,Yk,Yv];omega)) r2 qz (qf (Zbl .t (.cs kr) (by simp only [Yc,Yk,Yv];omega)) r1 qz (qg 1 102 r1 r1 (qa 102 r1 r1 (qf (oP (ZiQ (Nn l i).dst) func73 (Args.one .t)) r1 qz (qf (Zbl .t .t (by simp only [Yc,Yk,Yv];omega)) r2 qz (qf (Z0 10 (Zch b (Zfk l i) ow (ZqA (Nn l i)) (by unfold ZqA;simp) ow) func72 rfl kr (Args.two .t .t)) r2 r1 qZ)))))))))))))) Z [8,7,6,3,2] [10,0] rfl rfl fun a w F G=>?_))
  try dsimp only [List.map,xD,xE,xT,xU,ldSF,Zp] at G
  refine Zj (Za (rZ G (qp r1 (qR rr qZ)) Z [8,7,6,3,2] [10,0] fun G=>?_))
  replace G:=G.turn 10 rfl (r':=RS.hp (ZaT (.pointer (some ⟨b,0,none⟩)) (Zf3 l (i+1)))) (fun _ _ _ _ h=>⟨_,.inr rfl,by rw [← Zgt hil];exact h⟩)
  replace G:=G.ent (i:=8) (s':=.pv (.int .i64 ((i+1:Nat):Int))) rfl (.int (Zd ow))
  obtain ⟨F,G⟩:=G.nM [7,6,3,2,8] [0,10]
  exact ⟨(i+1),F,⟨by omega,tv⟩,G,by omega⟩
 have hil:i=l.length:=by simp at hc0;omega
 rw [hil] at G
 refine Yz (Zh (Zh (Zr (Za (Ya (rZ G (qf (Z0 10 (Zpy b (Zf3 l l.length)) func75 rfl kr (Args.one .t)) r1 r1 (qO rr qZ)) Z [2] [10,0] fun G=>Yh ?_))))))
 refine Zv hfr G rfl rfl rfl (.bs rfl)
def ZfD (l:List Zf):Bool:=decide ((∀ q,q<l.length→(Nn l q).dst=(Nn l ((q+1) % l.length)).src)∧0<l.length)
def Zem (t:TxD) (key:Int) (p:Zbh→Bool):Bool:=t.ops.any fun o=>((o.read && decide (o.key=key)) && !decide (o.tx=t.id)) && p (ofO o)
def Zno (g:Zo) (e:Zf):Bool:=if e.kind=1 then ZjB g e.key e.src e.dst else if e.kind=2 then Zem ((ZJ g.txs e.dst).getD zeroT) e.key (fun v=>decide (v.tx=e.src) && ZdU g v) else if e.kind=3 then Zem ((ZJ g.txs e.src).getD zeroT) e.key (fun v=>ZdU g v && ZjB g e.key v.tx e.dst) else false
def Zeu (g:Zo) (e:Zf):Bool:=!((!Zjr g e.src || !Zjr g e.dst) || decide (e.src=e.dst)) && Zno g e
theorem ZmI (l:List Zf) (hl:l.length≤1000000):FnP prog 14 [.sl Zp l] (.bool (ZfD l)):=by
 refine FnP.mk func14 rfl ntmps14 rfl fun B a w F Z hfr G=>Ya ?_
 refine rZ G qB Z [2,0] [0] fun G=>(Ya (Ya ?_))
 refine rZ G (qR rr (qu Yb1 r1 (qJ qZ))) Z [7,6,5,2,0] [0] fun G=>Yg ?_
 refine Zm (σ:=(Nat)) [0,2,5,6] [0] (fun s=>[(7,.pv (.int .i64 (s:Int)))]) (fun s=>[]) (fun s=>s≤l.length∧(∀ q,q<s→(Nn l q).dst=(Nn l ((q+1) % l.length)).src)) (fun s=>l.length - s) (0) G ⟨rfl,rfl,rfl,rfl,rfl,tv⟩ ⟨rfl,tv⟩ ⟨Yx _,fun q hq=>absurd hq (Y3 q)⟩ ?_
 clear G;intro i a w F hC G
 try dsimp only at hC
 obtain ⟨F,G⟩:=G.nM [7,6,5,2,0] [0]
 try dsimp only at G
 obtain ⟨hi,hq⟩:=hC
 refine Ya (rZ G (qL r2) Z [8,7,6,5,2,0] [0] fun G=>Ya ?_)
 refine Zc G rfl (fun hc0=>?_) (fun hc0=>?_)
 ·have hil:i<l.length:=by simp at hc0;omega
  have hml:(i+1) % l.length<l.length:=YbC _ ow
  have hmi:(IntKind.wrap .i64 ((i:Int)+1)).tmod (l.length:Int)=(((i+1) % l.length:Nat):Int):=by rw [Zd ow,Int.tmod_eq_emod_of_nonneg ow];rfl
  refine Yf (Za (Ya (Yg (Ya (Zb G (qR rr (qy 4 Yb1 r2 (qf (oR true 4 .t) r1 qz (qf (oH [.int .i64 0,.int .i64 0,.int .i64 0,.int .i64 0] 101) trivial qz (qO rr (qS 4 101 r2 r1 qZ)))))) Z [7,6,5,4,3,2,0] [101,0] (fun _=>rfl) (fun _=>rfl) fun τ a w F G=>?_)))))
  try dsimp only [RS.sub,SF.sub,CF.sub,csub,Anc.sub,List.map,Ze,xL,xM,Nat.reduceAdd,xD,xE,xT,xU,xC,xN,zCF,ldSF,Zp] at G
  generalize τ 4=v4 at G
  try simp only [Yd] at G
  refine Za (Ya (ZB G (qg 1 101 r1 r1 (qa 101 r1 r1 (qR rr (qR rr (qp r1 (qR rr (qu Yb1 r1 (qf (o_rem .t .t ow) r2 qz (qf (o_indexAddr_sl (sz:=4) (.mk Yb1 kr) (by intro x;rfl) .t .t (by rw [hmi];omega) (by rw [hmi];omega)) r2 qz (qf (oG 0 .t) r1 qz (qf (oR false 1 .t) r1 qz (qf (o_neq .t .t) r2 qz qZ)))))))))))) Z [23,7,6,5,2,0] [0] rfl rfl fun a w F G=>?_))
  try dsimp only [List.map,xD,xE,xT,xU,ldSF,Zp] at G
  try simp only [Yd] at G
  rw [hmi,Yd] at G
  refine Za (Zc G rfl (fun hc1=>?_) (fun hc1=>?_))
  ·have hg:false=ZfD l:=by unfold ZfD;rw [Yan,YA];intro h9;have h8:=hc1;rw [h9.1 i hil] at h8;simp at h8
   refine Ya (rZ G qB Z [7,6,5,2,0] [0] fun G=>(Yh (Zx (Zl (Zl (Zx (Zl ?_)))))))
   refine Zv hfr G rfl rfl rfl (.bool hg)
  have hne:(Nn l i).dst=(Nn l ((i+1) % l.length)).src:=by simpa using hc1
  refine Yf (Zj (Za (rZ G (qp r1 (qR rr qZ)) Z [7,6,5,2,0] [0] fun G=>?_)))
  replace G:=G.ent (i:=7) (s':=.pv (.int .i64 ((i+1:Nat):Int))) rfl (.int (Zd ow))
  obtain ⟨F,G⟩:=G.nM [6,5,2,0,7] [0]
  exact ⟨(i+1),F,⟨by omega,(fun q h9=>by rcases YZ (Y5 h9) with h8 | h8;exact hq q h8;rw [h8];exact hne)⟩,G,by omega⟩
 have hil:i=l.length:=by simp at hc0;omega
 have hg:decide ((0:Int)<(l.length:Int))=ZfD l:=by unfold ZfD;rw [Yak];constructor;exact fun h9=>⟨by rw [hil] at hq;exact hq,by omega⟩;exact fun h9=>by have:=h9.2;omega
 refine Yz (Zh (Zh (Zr (Za (Ya (rZ G (qR rr (qu Yb1 r1 (qf (Za3 .t qi) r1 qz (qO rr qZ)))) Z [2] [0] fun G=>Yh ?_))))))
 refine Zv hfr G rfl rfl rfl (.bool hg)
theorem ZjS (t : TxD) (key : Int) (ht : t.ops.length ≤ 1000000) (p : Zbh → Bool) (f : FuncId) (fn : Func) (cps : List PV) (hf : prog.funcs[f]? = some fn) (hb : fn.body.isSome = true) (hnn : (fn.name == "runtime.NumGoroutine") = false) (hw : ∀ v : Zbh, FnP prog f (.agg (ZN v) :: cps) (.bool (p v))) : FnP prog 82 [.agg (rTx t), .int .i64 key, .clos f cps] (.bool (Zem t key p)) := by
 refine FnP.mk func82 rfl ntmps82 rfl fun B a w F Z hfr G=>Ya ?_
 refine Zb G (qx 101 r1 qB) Z [6,3,2,1] [101,0] (fun _=>rfl) (fun _=>rfl) fun τ a w F G=>?_
 try dsimp only [RS.sub,SF.sub,CF.sub,csub,Anc.sub,List.map,zCF,rTx,rOp,ZN] at G
 generalize τ 3=v3 at G
 refine Za (Ya (Ya (rZ G (qg 2 101 r1 r1 (qa 101 r1 r1 (qu Yb2 r1 (qJ qZ)))) Z [12,11,10,6,3,2,1] [101,0] fun G=>Yg ?_)))
 refine Zm (σ:=(Nat)) [1,2,3,6,10,11] [0,101] (fun s=>[(12,.pv (.int .i64 (s:Int)))]) (fun s=>[]) (fun s=>s≤t.ops.length∧(∀ q,q<s→(fun o:OpD=>((o.read && decide (o.key=key)) && !decide (o.tx=t.id)) && p (ofO o)) (Nn t.ops q)=false)) (fun s=>t.ops.length - s) (0) G ⟨rfl,rfl,rfl,rfl,rfl,rfl,rfl,tv⟩ ⟨rfl,rfl,tv⟩ ⟨Yx _,fun q hq=>absurd hq (Y3 q)⟩ ?_
 clear G;intro i a w F hC G
 try dsimp only at hC
 obtain ⟨F,G⟩:=G.nM [12,11,10,6,3,2,1] [101,0]
 try dsimp only at G
 obtain ⟨hi,hq⟩:=hC
 refine Ya (rZ G (qL r2) Z [13,12,11,10,6,3,2,1] [101,0] fun G=>Ya ?_)
 refine Zc G rfl (fun hc0=>?_) (fun hc0=>?_)
 ·skip
  have hil:i<t.ops.length:=by simp at hc0;omega
  refine Yf (Za (Ya (Yg (Ya (Zb G (qy 4 Yb2 r2 (qf (oR true 4 .t) r1 qz (qf (oH [.bool false,.int .i64 0,.int .i64 0,.int .i64 0] 102) trivial qz (qS 4 102 r2 r1 qZ)))) Z [12,11,10,8,6,3,2,1] [102,101,0] (fun _=>rfl) (fun _=>rfl) fun τ a w F G=>?_)))))
  try dsimp only [RS.sub,SF.sub,CF.sub,csub,Anc.sub,List.map,Ze,xL,xM,Nat.reduceAdd,xD,xE,xT,xU,xC,xN,zCF,ldSF,rTx,rOp,ZN] at G
  generalize τ 8=v8 at G
  try simp only [Yd] at G
  refine Za (Ya (rZ G (qg 0 102 r1 r1 (qa 102 r1 r1 (qR rr (qv 1 102 rfl r2 r1 (qw 102 rfl r2 r1 (qm rfl rfl rfl rfl (qk rfl (fun h=>o_eql (.w h) (.w h)) r3 qz (qf (ZH .t .t) r2 qz (qR rr (qv 2 102 rfl r2 r1 (qw 102 rfl r2 r1 (qv 0 101 rfl r2 r1 (qw 101 rfl r2 r1 (qk rfl (fun h=>o_neq (.w h) (.w h)) r3 qz (qf (ZH .t .t) r2 qz (qR rr (qm rfl rfl rfl rfl (qk rfl (fun h=>oL true 4 102 .is) r2 r1 (qk rfl (fun h=>oP (ZkZ (Nn t.ops i)) func120 (Args.one (.pagg (.w h)))) r2 qz (qk rfl (fun h=>Z6 (avs:=[.agg (ZN (ofO (Nn t.ops i)))]) (.w h) (hw (ofO (Nn t.ops i))) hf hb hnn (Args.one (.w h))) r3 qz (qf (ZH .t .t) r2 qz qZ))))))))))))))))))))) Z [36,12,11,10,6,3,2,1] [102,101,0] fun G=>?_))
  refine Zc G rfl (fun hc1=>?_) (fun hc1=>?_)
  ·skip
   have hg:true=Zem t key p:=(YaU.2 ⟨(Nn t.ops i),nth_mem hil,hc1⟩).symm
   refine Ya (rZ G qB Z [12,11,10,6,3,2,1] [102,101,0] fun G=>(Yh (Zx (Zl (Zl (Zx (Zl ?_)))))))
   refine Zv hfr G rfl rfl rfl (.bool hg)
  have hne:(fun o:OpD=>((o.read && decide (o.key=key)) && !decide (o.tx=t.id)) && p (ofO o)) (Nn t.ops i)=false:=hc1
  refine Yf (Zj (Za (rZ G (qp r1 (qR rr qZ)) Z [12,11,10,6,3,2,1] [102,101,0] fun G=>?_)))
  replace G:=G.ent (i:=12) (s':=.pv (.int .i64 ((i+1:Nat):Int))) rfl (.int (Zd ow))
  obtain ⟨F,G⟩:=G.nM [11,10,6,3,2,1,12] [101,0]
  exact ⟨(i+1),F,⟨by omega,(fun q h9=>by rcases YZ (Y5 h9) with h8 | h8;exact hq q h8;rw [h8];exact hne)⟩,G,by omega⟩
 have hil:i=t.ops.length:=by simp at hc0;omega
 have hg:false=Zem t key p:=by unfold Zem;rw [Yan,List.any_eq_false];intro o ho;obtain ⟨q,h8,rfl⟩:=YaS.1 ho;rw [← nth_eq h8,Bool.not_eq_true];exact hq q ow
 refine Yz (Zh (Zh (Zr (Za (Ya (rZ G qB Z [6] [101,0] fun G=>Yh ?_))))))
 refine Zv hfr G rfl rfl rfl (.bool hg)
theorem ZpW (g:Zo) (e:Zf) (v:Zbh) (hs:ZbR g):FnP prog 83 [.agg (ZN v),.ref (Zp e),.ref [.sl rTx g.txs,.sl ZP g.orders]] (.bool (decide (v.tx=e.src) && ZdU g v)):=by
 refine FnP.mk func83 rfl ntmps83 rfl fun B a w F Z hfr G=>Ya ?_
 refine Zb G (qx 101 r1 qB) Z [4,3,2,1] [101,0] (fun _=>rfl) (fun _=>rfl) fun τ a w F G=>?_
 try dsimp only [RS.sub,SF.sub,CF.sub,csub,Anc.sub,List.map,zCF,Zu,rTx,ZP,ZN,Zn,rOp,Zp] at G
 generalize τ 3=v3 at G
 refine Za (Ya (rZ G (qg 0 101 r1 r1 (qa 101 r1 r1 (qf (oG 0 .t) r1 qz (qf (oR false 1 .t) r1 qz (qf (o_eql .t .t) r2 qz (qR rr (qk rfl (fun h=>oR true 2 .t) r2 qz (qk rfl (fun h=>oL true 3 101 .is) r2 r1 (qk rfl (fun h=>oP (ZoM g v hs.1) func84 (Args.two (.pagg (.w h)) (.pagg (.w h)))) r3 qz (qf (ZH .t .t) r2 qz (qO rr qZ))))))))))) Z [4] [101,0] fun G=>Yh ?_))
 refine Zv hfr G rfl rfl rfl (.bool rfl)
theorem Zqz (g:Zo) (e:Zf) (v:Zbh) (hs:ZbR g):FnP prog 85 [.agg (ZN v),.ref [.sl rTx g.txs,.sl ZP g.orders],.ref (Zp e)] (.bool (ZdU g v && ZjB g e.key v.tx e.dst)):=by
 refine FnP.mk func85 rfl ntmps85 rfl fun B a w F Z hfr G=>Ya ?_
 refine Zb G (qx 101 r1 qB) Z [4,3,2,1] [101,0] (fun _=>rfl) (fun _=>rfl) fun τ a w F G=>?_
 try dsimp only [RS.sub,SF.sub,CF.sub,csub,Anc.sub,List.map,zCF,Zu,rTx,ZP,ZN,Zn,rOp,Zp] at G
 generalize τ 3=v3 at G
 refine Za (Ya (rZ G (qf (oR true 2 .t) r1 qz (qe 3 101 r1 r1 (qf (oP (ZoM g v hs.1) func84 (Args.two (.pagg .t) (.pagg .t))) r2 qz (qR rr (qk rfl (fun h=>oR true 2 .t) r2 qz (qk rfl (fun h=>oG 3 .t) r2 qz (qk rfl (fun h=>oR false 1 (.w h)) r2 qz (qv 0 101 rfl r2 r1 (qw 101 rfl r2 r1 (qk rfl (fun h=>oG 1 .t) r2 qz (qk rfl (fun h=>oR false 1 (.w h)) r2 qz (qk rfl (fun h=>oP (Znl g e.key v.tx e.dst hs) func81 (Args.four (.pagg (.w h)) (.w h) (.w h) (.w h))) r5 qz (qf (ZH .t .t) r2 qz (qO rr qZ)))))))))))))) Z [4] [101,0] fun G=>Yh ?_))
 refine Zv hfr G rfl rfl rfl (.bool rfl)
theorem Zsz (g:Zo) (e:Zf) (hs:ZbR g):FnP prog 43 [.agg (Zu g),.agg (Zp e)] (.bool (Zeu g e)):=by
 refine FnP.mk func43 rfl ntmps43 rfl fun B a w F Z hfr G=>Ya ?_
 refine Zb G (qx 101 r1 (qx 102 r1 qB)) Z [4,3,2] [102,101,0] (fun _=>rfl) (fun _=>rfl) fun τ a w F G=>?_
 try dsimp only [RS.sub,SF.sub,CF.sub,csub,Anc.sub,List.map,zCF,Zu,rTx,ZP,ZN,Zn,rOp,Zp] at G
 generalize τ 2=v2,τ 3=v3 at G
 obtain ⟨F,G⟩:=G.giveRef 101 2 rfl rfl rfl
 obtain ⟨F,G⟩:=G.nM [4,3,2] [102,0]
 try dsimp only [Go.Gm.unCF] at G
 obtain ⟨F,G⟩:=G.giveRef 102 3 rfl rfl rfl
 obtain ⟨F,G⟩:=G.nM [4,3,2] [0]
 try dsimp only [Go.Gm.unCF] at G
 refine Za (Ya (Zb G (qf (oR true 2 .t) r1 qz (qf (oG 0 .t) r1 qz (qf (oR false 1 .t) r1 qz (qf (oP (Zja g e.src hs.1) func80 (Args.two (.pagg .t) .t)) r2 qz (qR rr (qf (Zi .t rfl) r1 qz (qf (Zi .t rfl) r1 qz (qf (oH [.int .i64 0,.bool false,.slice none 0 0] 103) trivial qz (qf (oA 3 103 .same (.conv .t .agg)) r2 r1 (qO rr qZ)))))))))) Z [6,5,4,3,2] [103,0] (fun _=>rfl) (fun _=>rfl) fun τ a w F G=>?_))
 try dsimp only [RS.sub,SF.sub,CF.sub,csub,Anc.sub,List.map,Ze,xL,xM,Nat.reduceAdd,xD,xE,xT,xU,xC,xN,zCF,ldSF,Zu,rTx,ZP,ZN,Zn,rOp,Zp] at G
 generalize τ 5=v5 at G
 refine Za (Ya (Zb G (qf (oR true 2 .t) r1 qz (qf (oG 1 .t) r1 qz (qf (oR false 1 .t) r1 qz (qf (oP (Zja g e.dst hs.1) func80 (Args.two (.pagg .t) .t)) r2 qz (qR rr (qf (Zi .t rfl) r1 qz (qf (Zi .t rfl) r1 qz (qf (oH [.int .i64 0,.bool false,.slice none 0 0] 104) trivial qz (qf (oA 3 104 .same (.conv .t .agg)) r2 r1 (qO rr qZ)))))))))) Z [8,7,6,5,4,3,2] [104,103,0] (fun _=>rfl) (fun _=>rfl) fun τ a w F G=>?_))
 try dsimp only [RS.sub,SF.sub,CF.sub,csub,Anc.sub,List.map,Ze,xL,xM,Nat.reduceAdd,xD,xE,xT,xU,xC,xN,zCF,ldSF,Zu,rTx,ZP,ZN,Zn,rOp,Zp] at G
 generalize τ 7=v7 at G
 refine Za (Ya (Ya (rZ G (qR rr (qf (o_not .t) r1 qz (qR rr (qm rfl rfl rfl rfl (qk rfl (fun h=>o_not (.w h)) r2 qz (qf (Zaa .t .t) r2 qz (qR rr (qk rfl (fun h=>oG 0 .t) r2 qz (qk rfl (fun h=>oR false 1 (.w h)) r2 qz (qk rfl (fun h=>oG 1 .t) r2 qz (qk rfl (fun h=>oR false 1 (.w h)) r2 qz (qk rfl (fun h=>o_eql (.w h) (.w h)) r3 qz (qf (Zaa .t .t) r2 qz qZ))))))))))))) Z [35,7,5,4,3,2] [104,103,0] fun G=>?_)))
 refine Zc G rfl (fun hc0=>?_) (fun hc0=>?_)
 ·have hg:false=Zeu g e:=by unfold Zeu;rw [hc0];rfl
  refine Ya (rZ G qB Z [7,5,4,3,2] [104,103,0] fun G=>(Yh (Zl ?_)))
  refine Zv hfr G rfl rfl rfl (.bool hg)
 have hF:((!Zjr g e.src || !Zjr g e.dst) || decide (e.src=e.dst))=false:=hc0
 refine Yf (Za (Ya (Ya (rZ G (qf (oG 2 .t) r1 qz (qf (oR false 1 .t) r1 qz qZ)) Z [37,7,5,4,3,2] [104,103,0] fun G=>(Yg (Ya ?_))))))
 refine rZ G (qf (o_eql .t qi) r1 qz (qO rr qZ)) Z [38,37,7,5,4,3,2] [104,103,0] fun G=>?_
 refine Zc G rfl (fun hc1=>?_) (fun hc1=>?_)
 ·have hk1:e.kind=1:=Yw hc1
  have hg:ZjB g e.key e.src e.dst=Zeu g e:=by unfold Zeu Zno;rw [hF,Ye hk1];rfl
  refine Ya (rZ G (qf (oR true 2 .t) r1 qz (qf (oG 3 .t) r1 qz (qf (oR false 1 .t) r1 qz (qf (oG 0 .t) r1 qz (qf (oR false 1 .t) r1 qz (qf (oG 1 .t) r1 qz (qf (oR false 1 .t) r1 qz (qf (oP (Znl g e.key e.src e.dst hs) func81 (Args.four (.pagg .t) .t .t .t)) r4 qz (qO rr qZ))))))))) Z [4] [104,103,0] fun G=>(Yh (Zx (Zl ?_))))
  refine Zv hfr G rfl rfl rfl (.bool hg)
 have hn1:¬ e.kind=1:=YG hc1
 refine Ya (rZ G (qf (o_eql .t qi) r1 qz (qO rr qZ)) Z [48,37,7,5,4,3,2] [104,103,0] fun G=>?_)
 refine Zc G rfl (fun hc2=>?_) (fun hc2=>?_)
 ·have hk2:e.kind=2:=Yw hc2
  have hg:Zem ((ZJ g.txs e.dst).getD zeroT) e.key (fun v=>decide (v.tx=e.src) && ZdU g v)=Zeu g e:=by unfold Zeu Zno;rw [hF,Yb hn1,Ye hk2];rfl
  refine Ya (rZ G (qe 3 104 r1 r1 (qf (oG 3 .t) r1 qz (qf (oR false 1 .t) r1 qz (qf (Zbo (Args.two .t .t)) r2 qz (qf (oP (ZjS ((ZJ g.txs e.dst).getD zeroT) e.key (Zha hs.1 _) (fun v=>decide (v.tx=e.src) && ZdU g v) 83 f83 [.ref (Zp e),.ref [.sl rTx g.txs,.sl ZP g.orders]] func83 rfl kr (fun v=>ZpW g e v hs)) func82 (Args.three (.pagg .t) .t .t)) r3 qz (qO rr qZ)))))) Z [4] [104,103,0] fun G=>(Yh (Zx (Zl ?_))))
  refine Zv hfr G rfl rfl rfl (.bool hg)
 have hn2:¬ e.kind=2:=YG hc2
 refine Ya (rZ G (qf (o_eql .t qi) r1 qz (qO rr qZ)) Z [55,5,4,3,2] [104,103,0] fun G=>?_)
 refine Zc G rfl (fun hc3=>?_) (fun hc3=>?_)
 ·have hk3:e.kind=3:=Yw hc3
  have hg:Zem ((ZJ g.txs e.src).getD zeroT) e.key (fun v=>ZdU g v && ZjB g e.key v.tx e.dst)=Zeu g e:=by unfold Zeu Zno;rw [hF,Yb hn1,Yb hn2,Ye hk3];rfl
  refine Ya (rZ G (qe 3 103 r1 r1 (qf (oG 3 .t) r1 qz (qf (oR false 1 .t) r1 qz (qf (Zbo (Args.two .t .t)) r2 qz (qf (oP (ZjS ((ZJ g.txs e.src).getD zeroT) e.key (Zha hs.1 _) (fun v=>ZdU g v && ZjB g e.key v.tx e.dst) 85 f85 [.ref [.sl rTx g.txs,.sl ZP g.orders],.ref (Zp e)] func85 rfl kr (fun v=>Zqz g e v hs)) func82 (Args.three (.pagg .t) .t .t)) r3 qz (qO rr qZ)))))) Z [4] [104,103,0] fun G=>(Yh (Zx (Zl ?_))))
  refine Zv hfr G rfl rfl rfl (.bool hg)
 have hn3:¬ e.kind=3:=YG hc3
 have hg:false=Zeu g e:=by unfold Zeu Zno;rw [hF,Yb hn1,Yb hn2,Yb hn3];rfl
 refine Yf (Zj (Za (Ya (rZ G qB Z [4] [104,103,0] fun G=>Yh ?_))))
 refine Zv hfr G rfl rfl rfl (.bool hg)
def ZhE:ZnQ:=⟨5,[⟨1,2,3,1⟩,⟨2,1,3,2⟩],Zpu⟩
theorem Zk7:∀ i:Nat,i<ZhE.walk.length→Zeu ZdQ (Nn ZhE.walk i)=true:=fun i hi=>by
 rcases (show i=0∨i=1 by have:ZhE.walk.length=2:=rfl;omega) with rfl | rfl <;> decide +kernel
theorem ZsR  : FnP prog 33 [.agg (Zu ZdQ),.agg (ZeV ZhE)] (.bool true):=by
 refine FnP.mk func33 rfl ntmps33 rfl fun B a w F Z hfr G=>Ya ?_
 refine Zb G (qx 101 r1 (qx 102 r1 qB)) Z [4,3,2] [102,101,0] (fun _=>rfl) (fun _=>rfl) fun τ a w F G=>?_
 try dsimp only [RS.sub,SF.sub,CF.sub,csub,Anc.sub,List.map,zCF,Zu,rTx,ZP,ZN,Zn,rOp,Zp,ZeV] at G
 generalize τ 2=v2,τ 3=v3 at G
 refine Za (Ya (Ya (rZ G (qe 2 101 r1 r1 (qf (oP (ZcR ZdQ ZcS.1) func19 (Args.one (.pagg .t))) r1 qz (qf (o_not .t) r1 qz qZ))) Z [13,4,3,2] [102,101,0] fun G=>?_)))
 refine Zc G rfl (fun hc0=>?_) (fun hc0=>?_)
 ·exact absurd hc0 (by decide +kernel)
 refine Yf (Za (Ya (Zb G (qe 2 101 r1 r1 (qf (oB [(0,.tmp 14)] [.slice none 0 0,.slice none 0 0] [(0,2)] (.agg rfl .t kr kr .nil)) r1 qz (qf (oH [.slice none 0 0,.slice none 0 0] 103) trivial qz (qS 2 103 r2 r1 qZ)))) Z [5,4,3] [103,102,101,0] (fun _=>rfl) (fun _=>rfl) fun τ a w F G=>?_)))
 try dsimp only [RS.sub,SF.sub,CF.sub,csub,Anc.sub,List.map,Ze,xL,xM,Nat.reduceAdd,xD,xE,xT,xU,xC,xN,zCF,ldSF,Zu,rTx,ZP,ZN,Zn,rOp,Zp,ZeV] at G
 generalize τ 5=v5 at G
 refine Za (Ya (Ya (rZ G (qg 0 102 r1 r1 (qa 102 r1 r1 qZ)) Z [17,5,4,3] [103,102,101,0] fun G=>(Yg (Ya (Ya ?_))))))
 refine rZ G (qf (o_eql .t qi) r1 qz (qO rr qZ)) Z [18,17,5,4,3] [103,102,101,0] fun G=>?_
 refine Zc G rfl (fun hc1=>?_) (fun hc1=>?_)
 ·exact absurd hc1 (by decide)
 refine rZ G (qf (o_eql .t qi) r1 qz (qO rr qZ)) Z [18,5,4,3] [103,102,101,0] fun G=>?_
 refine Zc G rfl (fun hc2=>?_) (fun hc2=>?_)
 ·exact absurd hc2 (by decide)
 refine Yf (Zj (Za (Ya (rZ G (qg 0 102 r1 r1 (qa 102 r1 r1 (qf (oP (Zoy ZhE.phen) func68 (Args.one .t)) r1 qz (qR rr (qf (Zi .t rfl) r1 qz (qf (Zi .t rfl) r1 qz (qO rr (qO rr qZ)))))))) Z [7,6,5,4,3] [103,102,101,0] fun G=>Ya ?_))))
 refine rZ G (qg 1 102 r1 r1 (qa 102 r1 r1 (qf (oP (Zsh ZhE.walk (by decide)) func71 (Args.one .t)) r1 qz (qO rr qZ)))) Z [8,7,6,5,4,3] [103,102,101,0] fun G=>(Ya (Ya ?_))
 refine Zg G (qR rr (qf (o_eql .t qi) r1 qz (qR rr (qv 2 102 rfl r2 r1 (qk rfl (fun h=>oL true 5 102 (.w h .adr)) r2 r1 (qk rfl (fun h=>Zi9 (r:=[]) (zs:=[.int .i64 0,.int .i64 0,.int .i64 0,.int .i64 0,.int .i64 0]) (pl:=[(0,1),(1,1),(2,3)]) kr kr .nil (by rfl)) r1 qz (qk rfl (fun h=>ZsV (ks:=[true,true,true,true,true]) kr (.w h) (.w h) (.int (.int (.int (.int (.int .nil)))))) r3 qz (qf (Zaa .t .t) r2 qz (qR rr (qv 1 102 rfl r2 r1 (qw 102 rfl r2 r1 (qk rfl (fun h=>oP (ZmI ZhE.walk (by decide)) func14 (Args.one (.w h))) r2 qz (qk rfl (fun h=>o_not (.w h)) r2 qz (qf (Zaa .t .t) r2 qz (qR rr (qm rfl rfl rfl rfl (qm rfl rfl rfl rfl (qk rfl (fun h=>ZjU (.w h) (.w h)) r3 qz (qk rfl (fun h=>o_neq (.w h) qi) r2 qz (qf (Zaa .t .t) r2 qz (qR rr (qm rfl rfl rfl rfl (qk rfl (fun h=>o_neq (.w h) qi) r2 qz (qk rfl (fun h=>oM (.w h)) r2 qz (Zy.cons (ZaD.cond2 rfl rfl (fun h=>Za0 .t (by rfl))) r2 qz (Zy.cons (ZaD.cond2 rfl rfl (fun h=>Za0 .t (by rfl))) r2 qz (Zy.cons (ZaD.cond2 rfl rfl (fun h=>Zdk (.w h) (.w h))) r3 qz (Zy.cons (ZaD.cond2 rfl rfl (fun h=>o_eql (.w h) qi)) r2 qz (qk rfl (fun h=>ZH (.w h) (.wc h)) r3 qz (qf (Zaa .t .t) r2 qz qZ)))))))))))))))))))))))))))))) Z [71,5,4,3] [103,102,101,0] rfl rfl fun a w F G=>?_
 try dsimp only [List.map,Ze,xL,xM,Nat.reduceAdd,xD,xE,xT,xU,xC,xN,zCF,ldSF,Zu,rTx,ZP,ZN,Zn,rOp,Zp,ZeV] at G
 refine Za (Zc G rfl (fun hc3=>?_) (fun hc3=>?_))
 ·exact absurd hc3 (by decide +kernel)
 refine Yf (Za (Ya (Ya (rZ G (qg 1 102 r1 r1 (qa 102 r1 r1 (qu Yb1 r1 (qJ qZ)))) Z [75,74,73,5,4] [103,102,101,0] fun G=>Yg ?_))))
 refine Zm (σ:=(Nat)) [4,5,73,74] [0,101,102,103] (fun s=>[(75,.pv (.int .i64 (s:Int)))]) (fun s=>[]) (fun s=>s≤ZhE.walk.length∧(True)) (fun s=>ZhE.walk.length - s) (0) G ⟨rfl,rfl,rfl,rfl,rfl,tv⟩ ⟨rfl,rfl,rfl,rfl,tv⟩ ⟨Yx _,tv⟩ ?_
 clear G;intro i a w F hC G
 try dsimp only at hC
 obtain ⟨F,G⟩:=G.nM [75,74,73,5,4] [103,102,101,0]
 try dsimp only at G
 obtain ⟨hi,hq⟩:=hC
 have hwl:ZhE.walk.length=2:=rfl
 refine Ya (rZ G (qL r2) Z [76,75,74,73,5,4] [103,102,101,0] fun G=>Ya ?_)
 refine Zc G rfl (fun hc4=>?_) (fun hc4=>?_)
 ·have hil:i<ZhE.walk.length:=by simp at hc4;omega
  refine Yf (Za (Ya (Yg (Ya (Zb G (qy 4 Yb1 r2 (qf (oR true 4 .t) r1 qz (qf (oH [.int .i64 0,.int .i64 0,.int .i64 0,.int .i64 0] 104) trivial qz (qS 4 104 r2 r1 qZ)))) Z [75,74,73,10,5,4] [104,103,102,101,0] (fun _=>rfl) (fun _=>rfl) fun τ a w F G=>?_)))))
  try dsimp only [RS.sub,SF.sub,CF.sub,csub,Anc.sub,List.map,Ze,xL,xM,Nat.reduceAdd,xD,xE,xT,xU,xC,xN,zCF,ldSF,Zu,rTx,ZP,ZN,Zn,rOp,Zp,ZeV] at G
  generalize τ 10=v10 at G
  try simp only [Yd] at G
  refine Za (Ya (rZ G (qe 2 103 r1 r1 (qe 4 104 r1 r1 (qf (oP (Zsz ZdQ (Nn ZhE.walk i) ZcS.1) func43 (Args.two (.pagg .t) (.pagg .t))) r2 qz (qf (o_not .t) r1 qz qZ)))) Z [82,75,74,73,5,4] [104,103,102,101,0] fun G=>?_))
  refine Zc G rfl (fun hc5=>?_) (fun hc5=>?_)
  ·rw [Zk7 i hil] at hc5;cases hc5
  refine Yf (Zj (Za (rZ G (qp r1 (qR rr qZ)) Z [75,74,73,5,4] [104,103,102,101,0] fun G=>?_)))
  replace G:=G.ent (i:=75) (s':=.pv (.int .i64 ((i+1:Nat):Int))) rfl (.int (Zd ow))
  obtain ⟨F,G⟩:=G.nM [74,73,5,4,75] [103,102,101,0]
  exact ⟨(i+1),F,⟨by omega,tv⟩,G,by omega⟩
 have hil:i=ZhE.walk.length:=by simp at hc4;omega
 refine Yz (Zh (Zh (Zr (Za (Ya (rZ G qB Z [4] [103,102,101,0] fun G=>Yh ?_))))))
 refine Zv hfr G rfl rfl rfl .refl
theorem Zss {j:Int} {w:List Zf} (h:CwE (· ∈ [(⟨1,2,3,1⟩:Zf),⟨2,1,3,2⟩]) (fun e=>ofB 8 e.kind) true j w):2≤w.length∧j=1∧(w.length=2→w = [⟨1,2,3,1⟩,⟨2,1,3,2⟩]):=by
 obtain ⟨h1,h2,h3,_⟩:=h
 cases w with
 | nil=>exact absurd rfl h1
 | cons e w=>
  obtain ⟨he,ha,h4⟩:=h2
  rcases Yl.1 he with rfl | he
  ·have ha:(1:Int)=j:=ha
   subst ha
   cases w with
   | nil=>have h4:(2:Int)=1:=h4;omega
   | cons f w=>
    obtain ⟨hf,hb,h5⟩:=h4
    refine ⟨by simp,rfl,fun hl=>?_⟩
    have hw:w = []:=by simpa using hl
    subst hw
    rcases Yl.1 hf with rfl | hf
    ·have hb:(1:Int)=2:=hb;omega
    ·rw [Yi.1 hf]
  ·have he:=Yi.1 he
   subst he
   have ha:(2:Int)=j:=ha
   subst ha
   have:=h3 ⟨2,1,3,2⟩ (by simp)
   have:(2:Int)≤1:=this
   omega
theorem Znz:ZbD (ZV ZdQ) 5 [⟨1,2,3,1⟩,⟨2,1,3,2⟩]:=by
 have hf:(ZV ZdQ).filter (kindOk (maskP 5).1) = [⟨1,2,3,1⟩,⟨2,1,3,2⟩]:=by rw [ZlC];decide
 unfold ZbD
 rw [Yb (by decide),hf]
 have h8:(maskP 5).2=8:=rfl
 rw [h8]
 refine .inr ⟨1,⟨by simp,⟨by simp,rfl,by simp,rfl,rfl⟩,?_,fun _=>⟨⟨1,2,3,1⟩,by simp,by decide⟩⟩,fun j' w' k=>?_⟩
 ·intro e he
  rcases Yl.1 he with rfl | he
  ·show (1:Int)≤2;decide
  ·rw [Yi.1 he];show (1:Int)≤1;decide
 ·obtain ⟨k1,k2,k3⟩:=Zss k
  by_cases hl:w'.length=2
  ·exact .inr ⟨hl.symm,.inr ⟨k2.symm,.inl (k3 hl)⟩⟩
  ·exact .inl (by show 2<_;omega)
theorem Zkn:Zhv ZdQ 5 [⟨1,2,3,1⟩,⟨2,1,3,2⟩] = ZhE∧okH ZdQ 5 [⟨1,2,3,1⟩,⟨2,1,3,2⟩] = true:=⟨rfl,by decide⟩
theorem Zov:Zf3 ZhE.walk ZhE.walk.length = [49,32,114,119,49,32,50,32,114,119,50,32,49]:=by decide +kernel
theorem ZlT:∀ e ∈ ZhE.walk,ZfC e:=fun e he=>by
 rcases Yl.1 he with rfl | he
 ·unfold ZfC;decide
 ·rw [Yi.1 he];unfold ZfC;decide
theorem Zk6  : FnP prog 10 [] (.bool true):=by
 refine FnP.mk func10 rfl ntmps10 rfl fun B a w F Z hfr G=>Ya ?_
 refine rZ G qB Z [0] [0] fun G=>Ya ?_
 refine Zb G (qf (oP (Zs8) func32 Args.nil) trivial qz (qf (oH [.slice none 0 0,.slice none 0 0] 101) trivial qz (qf (oA 2 101 .same (.conv .t .agg)) r2 r1 qZ))) Z [1,0] [101,0] (fun _=>rfl) (fun _=>rfl) fun τ a w F G=>?_
 try dsimp only [RS.sub,SF.sub,CF.sub,csub,Anc.sub,List.map,Ze,xL,xM,Nat.reduceAdd,xD,xE,xT,xU,xC,xN,zCF,Zu,rTx,ZP,ZN,Zn,rOp] at G
 generalize τ 1=v1 at G
 refine Za (Ya (Zb G (qe 2 101 r1 r1 (qf (oP (Zqj ZdQ ZcS.1 ZcS.2 5 [⟨1,2,3,1⟩,⟨2,1,3,2⟩] Znz) func12 (Args.two (.pagg .t) qi)) r1 qz (qR rr (qf (Zi .t rfl) r1 qz (qf (Zi .t rfl) r1 qz (qf (oH [.int .i64 0,.slice none 0 0,.int .i64 0,.int .i64 0,.int .i64 0,.int .i64 0,.int .i64 0] 102) trivial qz (qf (oA 7 102 .same (.conv .t .agg)) r2 r1 (qO rr qZ)))))))) Z [3,2,1,0] [102,101,0] (fun _=>rfl) (fun _=>rfl) fun τ a w F G=>?_))
 try dsimp only [RS.sub,SF.sub,CF.sub,csub,Anc.sub,List.map,Ze,xL,xM,Nat.reduceAdd,xD,xE,xT,xU,xC,xN,zCF,ldSF,Zu,rTx,ZP,ZN,Zn,rOp] at G
 generalize τ 2=v2 at G
 rw [Zkn.1,Zkn.2] at G
 try dsimp only [ZeV] at G
 refine Za (Ya (rZ G (qR rr (qR rr (qk rfl (fun h=>oL true 2 101 .is) r2 r1 (qk rfl (fun h=>oL true 7 102 .is) r2 r1 (qk rfl (fun h=>oP (ZsR) func33 (Args.two (.pagg (.w h)) (.pagg (.w h)))) r3 qz (qf (ZH .t .t) r2 qz (qR rr (qv 1 102 rfl r2 r1 (qw 102 rfl r2 r1 (qk rfl (fun h=>oP (Zro ZhE.walk (by decide) ZlT) func34 (Args.one (.w h))) r2 qz (qk rfl (fun h=>Zps Ycd (.w h) (.cs kr)) r2 qz (qf (ZH .t .t) r2 qz (qO rr qZ))))))))))))) Z [0] [102,101,0] fun G=>Yh ?_))
 refine Zv hfr G rfl rfl rfl (.bool (by rw [Zov];rfl))
def Zt4 (m:Int) (t:TxD):Prop:=(1≤t.id∧t.id≤m) ∧ ∀ o ∈ t.ops,1≤o.key∧o.key≤m
instance (m:Int) (g:Zo):Decidable (ZjM m g):=by unfold ZjM;infer_instance
theorem ZsU (g:Zo) (m:Int) (hs:ZaN g.txs):FnP prog 18 [.agg (Zu g),.int .i64 m] (.bool (decide (ZjM m g))):=by
 refine FnP.mk func18 rfl ntmps18 rfl fun B a w F Z hfr G=>?_
 have hsl:=hs.1
 refine Ya (Zb G (qx 101 r1 qB) Z [4,2,1] [101,0] (fun _=>rfl) (fun _=>rfl) fun τ a w F G=>?_)
 try dsimp only [RS.sub,SF.sub,CF.sub,csub,Anc.sub,List.map,zCF,Zu,rTx,ZP,ZN,Zn,rOp] at G
 generalize τ 2=v2 at G
 refine Za (Ya (Ya (rZ G (qg 0 101 r1 r1 (qa 101 r1 r1 (qu Yb3 r1 (qJ qZ)))) Z [12,11,10,4,1] [101,0] fun G=>Yg ?_)))
 refine Zm (σ:=(Nat)) [1,4,10,11] [0,101] (fun s=>[(12,.pv (.int .i64 (s:Int)))]) (fun s=>[]) (fun s=>s≤g.txs.length∧(∀ k,k<s→Zt4 m (Nn g.txs k))) (fun s=>g.txs.length - s) (0) G ⟨rfl,rfl,rfl,rfl,rfl,tv⟩ ⟨rfl,rfl,tv⟩ ⟨Yx _,fun k hk=>absurd hk (Y3 k)⟩ ?_
 clear G;intro i a w F hC G
 try dsimp only at hC
 obtain ⟨F,G⟩:=G.nM [12,11,10,4,1] [101,0]
 try dsimp only at G
 obtain ⟨hi,hq⟩:=hC
 have hxl:=fun hil:i<g.txs.length=>hs.at hil
 refine Ya (rZ G (qL r2) Z [13,12,11,10,4,1] [101,0] fun G=>Ya ?_)
 refine Zc G rfl (fun hc0=>?_) (fun hc0=>?_)
 ·have hil:i<g.txs.length:=by simp at hc0;omega
  have hq0:=hq
  have hio:=hil
  have htl:=hxl hil
  refine Yf (Za (Ya (Yg (Ya (Zb G (qy 3 Yb3 r2 (qf (oR true 3 .t) r1 qz (qf (oH [.int .i64 0,.bool false,.slice none 0 0] 102) trivial qz (qS 3 102 r2 r1 qZ)))) Z [12,11,10,6,4,1] [102,101,0] (fun _=>rfl) (fun _=>rfl) fun τ a w F G=>?_)))))
  try dsimp only [RS.sub,SF.sub,CF.sub,csub,Anc.sub,List.map,Ze,xL,xM,Nat.reduceAdd,xD,xE,xT,xU,xC,xN,zCF,ldSF,Zu,rTx,ZP,ZN,Zn,rOp] at G
  generalize τ 6=v6 at G
  try simp only [Yd] at G
  refine Za (Ya (Ya (rZ G (qg 0 102 r1 r1 (qa 102 r1 r1 (qf (Zar .t qi) r1 qz (qR rr (qv 0 102 rfl r2 r1 (qw 102 rfl r2 r1 (qm rfl rfl rfl rfl (qk rfl (fun h=>Za3 (.w h) (.w h)) r3 qz (qf (Zaa .t .t) r2 qz qZ))))))))) Z [24,12,11,10,6,4,1] [102,101,0] fun G=>?_)))
  refine Zc G rfl (fun hc1=>?_) (fun hc1=>?_)
  ·have hg:false=decide (ZjM m g):=by
     rw [Yan,YA]
     intro h9
     have h8:=(h9 _ (nth_mem hil)).1
     simp at hc1
     omega
   refine Ya (rZ G qB Z [12,11,10,6,4,1] [102,101,0] fun G=>(Yh (Zl (Zx (Zl (Zl (Zx (Zl ?_))))))))
   refine Zv hfr G rfl rfl rfl (.bool hg)
  have hid:1≤(Nn g.txs i).id∧(Nn g.txs i).id≤m:=by simp at hc1;omega
  refine Yf (Za (Ya (rZ G (qg 2 102 r1 r1 (qa 102 r1 r1 (qu Yb2 r1 (qJ qZ)))) Z [28,27,26,12,11,10,4,1] [102,101,0] fun G=>Yg ?_)))
  refine Zm (σ:=(Nat)) [1,4,10,11,12,26,27] [0,101,102] (fun s=>[(28,.pv (.int .i64 (s:Int)))]) (fun s=>[]) (fun s=>s≤(Nn g.txs i).ops.length∧(∀ k,k<s→1≤(Nn (Nn g.txs i).ops k).key∧(Nn (Nn g.txs i).ops k).key≤m)) (fun s=>(Nn g.txs i).ops.length - s) (0) G ⟨rfl,rfl,rfl,rfl,rfl,rfl,rfl,rfl,tv⟩ ⟨rfl,rfl,rfl,tv⟩ ⟨Yx _,fun k hk=>absurd hk (Y3 k)⟩ ?_
  clear G;intro j a w F hC G
  try dsimp only at hC
  obtain ⟨F,G⟩:=G.nM [28,27,26,12,11,10,4,1] [102,101,0]
  try dsimp only at G
  obtain ⟨hi,hq⟩:=hC
  refine Ya (rZ G (qL r2) Z [29,28,27,26,12,11,10,4,1] [102,101,0] fun G=>Ya ?_)
  refine Zc G rfl (fun hc2=>?_) (fun hc2=>?_)
  ·have hil:j<(Nn g.txs i).ops.length:=by simp at hc2;omega
   refine Yf (Za (Ya (Yg (Ya (Zb G (qy 4 Yb2 r2 (qf (oR true 4 .t) r1 qz (qf (oH [.bool false,.int .i64 0,.int .i64 0,.int .i64 0] 103) trivial qz (qS 4 103 r2 r1 qZ)))) Z [28,27,26,12,11,10,8,4,1] [103,102,101,0] (fun _=>rfl) (fun _=>rfl) fun τ a w F G=>?_)))))
   try dsimp only [RS.sub,SF.sub,CF.sub,csub,Anc.sub,List.map,Ze,xL,xM,Nat.reduceAdd,xD,xE,xT,xU,xC,xN,zCF,ldSF,Zu,rTx,ZP,ZN,Zn,rOp] at G
   generalize τ 8=v8 at G
   try simp only [Yd] at G
   refine Za (Ya (rZ G (qg 1 103 r1 r1 (qa 103 r1 r1 (qf (Zar .t qi) r1 qz (qR rr (qv 1 103 rfl r2 r1 (qw 103 rfl r2 r1 (qm rfl rfl rfl rfl (qk rfl (fun h=>Za3 (.w h) (.w h)) r3 qz (qf (Zaa .t .t) r2 qz qZ))))))))) Z [40,28,27,26,12,11,10,4,1] [103,102,101,0] fun G=>?_))
   refine Zc G rfl (fun hc3=>?_) (fun hc3=>?_)
   ·have hg:false=decide (ZjM m g):=by
      rw [Yan,YA]
      intro h9
      have h8:=(h9 _ (nth_mem hio)).2 _ (nth_mem hil)
      simp at hc3
      omega
    refine Ya (rZ G qB Z [28,27,26,12,11,10,4,1] [103,102,101,0] fun G=>(Yh (Zx (Zl (Zl (Zx (Zx (Zl (Zl (Zx (Zl ?_)))))))))))
    refine Zv hfr G rfl rfl rfl (.bool hg)
   have hko:1≤(Nn (Nn g.txs i).ops j).key∧(Nn (Nn g.txs i).ops j).key≤m:=by simp at hc3;omega
   refine Yf (Zj (Za (rZ G (qp r1 (qR rr qZ)) Z [28,27,26,12,11,10,4,1] [103,102,101,0] fun G=>?_)))
   replace G:=G.ent (i:=28) (s':=.pv (.int .i64 ((j+1:Nat):Int))) rfl (.int (Zd ow))
   obtain ⟨F,G⟩:=G.nM [27,26,12,11,10,4,1,28] [102,101,0]
   exact ⟨(j+1),F,⟨by omega,(fun k hk=>by rcases YZ (Y5 hk) with h9 | h9;exact hq k h9;rw [h9];exact hko)⟩,G,by omega⟩
  have hil:j=(Nn g.txs i).ops.length:=by simp at hc2;omega
  have hgood:Zt4 m (Nn g.txs i):=⟨hid,fun o ho=>by obtain ⟨k,hk,e⟩:=YH ho;have h9:=hq k ow;rw [nth_eq hk,e] at h9;exact h9⟩
  refine Yz (Zh (Zh (Zr (Zj (Za (rZ G (qp r1 (qR rr qZ)) Z [12,11,10,4,1] [102,101,0] fun G=>?_))))))
  replace G:=G.ent (i:=12) (s':=.pv (.int .i64 ((i+1:Nat):Int))) rfl (.int (Zd ow))
  obtain ⟨F,G⟩:=G.nM [11,10,4,1,12] [101,0]
  exact ⟨(i+1),F,⟨by omega,(fun k hk=>by rcases YZ (Y5 hk) with h9 | h9;exact hq0 k h9;rw [h9];exact hgood)⟩,G,by omega⟩
 have hil:i=g.txs.length:=by simp at hc0;omega
 have hg:true=decide (ZjM m g):=(Yaa fun t ht=>by obtain ⟨k,hk,e⟩:=YH ht;have h9:=hq k ow;rw [nth_eq hk,e] at h9;exact h9).symm
 refine Yz (Zh (Zh (Zr (Za (Ya (rZ G qB Z [4] [101,0] fun G=>Yh ?_))))))
 refine Zv hfr G rfl rfl rfl (.bool hg)
theorem ZnS (g:Zo) (ia kc:Int) (hsm:ZbR g) (hia:0≤ia∧ia≤40000) (hkc:0≤kc∧kc≤40000) (hl:ZjM 1000000 g) (hro:∀ t ∈ g.txs,∀ o ∈ t.ops,ZaA o=true) (hor:∀ o ∈ g.orders,(1≤o.key∧o.key≤1000000) ∧ ∀ x ∈ o.txs,1≤x∧x≤1000000):FnP prog 20 [.agg (Zu g),.int .i64 ia,.int .i64 kc] (.agg (Zu (shH ia kc g))):=by
 refine FnP.mk func20 rfl ntmps20 rfl fun B a w F Z hfr G=>?_
 have hs:=hsm.1
 have hsl:=hs.1
 have hso:=hsm.2
 have hol1:=hso.1
 refine Ya (Zb G (qx 101 r1 (qf (oH [.slice none 0 0,.slice none 0 0] 102) trivial qz qZ)) Z [6,3,2,1] [102,101,0] (fun _=>rfl) (fun _=>rfl) fun τ a w F G=>?_)
 try dsimp only [RS.sub,SF.sub,CF.sub,csub,Anc.sub,List.map,zCF,Zu,rTx,ZP,ZN,Zn,rOp] at G
 generalize τ 3=v3,τ 6=v6 at G
 refine Za (Ya (Zb G (qf (oH [.slice none 0 0,.slice none 0 0] 103) trivial qz qZ) Z [7,6,3,2,1] [103,102,101,0] (fun _=>rfl) (fun _=>rfl) fun τ a w F G=>?_))
 try dsimp only [RS.sub,SF.sub,CF.sub,csub,Anc.sub,List.map,zCF,Zu,rTx,ZP,ZN,Zn,rOp] at G
 generalize τ 7=v7 at G
 refine Za (Ya (Ya (Zg G (qg 0 101 r1 r1 (qa 101 r1 r1 (qu Yb3 r1 (qJ qZ)))) Z [21,20,19,7,6,3,2,1] [103,102,101,0] rfl rfl fun a w F G=>?_)))
 replace G:=G.fresh 50 rfl
 replace G:=G.turn 50 rfl (Zas (T:=30) (sz:=3) (R:=rTx))
 obtain ⟨F,G⟩:=G.nM [21,20,19,7,6,3,2,1] [103,102,101,50,0]
 refine Za (Yg (Zm (σ:=(Nat)×(Value)×(List TxD)) [1,2,3,6,7,19,20] [0,101,102] (fun s=>[(21,.pv (.int .i64 (s.1:Int)))]) (fun s=>[(103,.pt (.val v7) 25 [.pv (.is s.2.1),.pv (.is (.slice none 0 0))]),(50,.ob (.val s.2.1) (ZC 30 3 rTx s.2.2))]) (fun s=>s.1≤g.txs.length∧(s.2.2=(g.txs.take s.1).map (shT ia kc))) (fun s=>g.txs.length - s.1) ((0),((.slice none 0 0)),([])) G ⟨rfl,rfl,rfl,rfl,rfl,rfl,rfl,rfl,tv⟩ ⟨rfl,rfl,rfl,rfl,rfl,tv⟩ ⟨Yx _,rfl⟩ ?_))
 clear G;intro s a w F hC G
 obtain ⟨i,u,out⟩:=s
 try dsimp only at hC
 obtain ⟨F,G⟩:=G.nM [21,20,19,7,6,3,2,1] [103,102,101,50,0]
 try dsimp only at G
 obtain ⟨hi,hq⟩:=hC
 have hxl:=fun hil:i<g.txs.length=>hs.at hil
 have hol:out.length≤i:=by rw [hq,YC,Yj];omega
 refine Ya (rZ G (qL r2) Z [22,21,20,19,7,6,3,2,1] [103,102,101,50,0] fun G=>Ya ?_)
 refine Zc G rfl (fun hc0=>?_) (fun hc0=>?_)
 ·have hil:i<g.txs.length:=by simp at hc0;omega
  have hio:=hil
  have hqo:=hq
  have htl:=hxl hil
  have hidb:=(hl _ (nth_mem hil)).1
  have hwid:IntKind.wrap .i64 ((Nn g.txs i).id+ia)=(Nn g.txs i).id+ia:=Zz ow
  refine Yf (Za (Ya (Yg (Ya (Zb G (qy 3 Yb3 r2 (qf (oR true 3 .t) r1 qz (qf (oH [.int .i64 0,.bool false,.slice none 0 0] 104) trivial qz (qS 3 104 r2 r1 qZ)))) Z [21,20,19,9,7,6,3,2,1] [104,103,102,101,50,0] (fun _=>rfl) (fun _=>rfl) fun τ a w F G=>?_)))))
  try dsimp only [RS.sub,SF.sub,CF.sub,csub,Anc.sub,List.map,Ze,xL,xM,Nat.reduceAdd,xD,xE,xT,xU,xC,xN,zCF,ldSF,Zu,rTx,ZP,ZN,Zn,rOp] at G
  generalize τ 9=v9 at G
  try simp only [Yd] at G
  refine Za (Ya (Zb G (qg 0 104 r1 r1 (qa 104 r1 r1 (qR rr (qf (o_add .t .t) r2 qz (qg 1 104 r1 r1 (qa 104 r1 r1 (qf (oB [(0,.tmp 28),(1,.tmp 30)] [.int .i64 0,.bool false,.slice none 0 0] [(0,1),(1,1),(2,1)] (.one rfl .t one_int kr (.one rfl .t ZdH kr .nil))) r2 qz (qf (oH [.int .i64 0,.bool false,.slice none 0 0] 105) trivial qz (qS 3 105 r2 r1 qZ))))))))) Z [21,20,19,10,9,7,6,3,2,1] [105,104,103,102,101,50,0] (fun _=>rfl) (fun _=>rfl) fun τ a w F G=>?_))
  try dsimp only [RS.sub,SF.sub,CF.sub,csub,Anc.sub,List.map,Ze,xL,xM,Nat.reduceAdd,xD,xE,xT,xU,xC,xN,zCF,ldSF,Zu,rTx,ZP,ZN,Zn,rOp] at G
  generalize τ 10=v10 at G
  rw [hwid] at G
  replace G:=G.fresh 51 rfl
  replace G:=G.turn 51 rfl (Zas (T:=60) (sz:=4) (R:=rOp))
  obtain ⟨F,G⟩:=G.nM [21,20,19,10,9,7,6,3,2,1] [105,104,103,102,101,51,50,0]
  refine Za (Ya (Ya (rZ G (qg 2 104 r1 r1 (qa 104 r1 r1 (qu Yb2 r1 (qJ qZ)))) Z [35,34,33,21,20,19,10,7,6,3,2,1] [105,104,103,102,101,51,50,0] fun G=>Yg ?_)))
  refine Zm (σ:=(Nat)×(Value)×(List OpD)) [1,2,3,6,7,10,19,20,21,33,34] [0,50,101,102,103,104] (fun s=>[(35,.pv (.int .i64 (s.1:Int)))]) (fun s=>[(105,.pt (.val v10) 30 [.pv (.int .i64 ((Nn g.txs i).id+ia)),.pv (.bool (Nn g.txs i).done),.pv (.is s.2.1)]),(51,.ob (.val s.2.1) (ZC 60 4 rOp s.2.2))]) (fun s=>s.1≤(Nn g.txs i).ops.length∧(s.2.2=((Nn g.txs i).ops.take s.1).map (shO ia kc))) (fun s=>(Nn g.txs i).ops.length - s.1) ((0),((.slice none 0 0)),([])) G ⟨rfl,rfl,rfl,rfl,rfl,rfl,rfl,rfl,rfl,rfl,rfl,rfl,tv⟩ ⟨rfl,rfl,rfl,rfl,rfl,rfl,rfl,rfl,tv⟩ ⟨Yx _,rfl⟩ ?_
  clear G;intro s a w F hC G
  obtain ⟨j,z,ops⟩:=s
  try dsimp only at hC
  obtain ⟨F,G⟩:=G.nM [35,34,33,21,20,19,10,7,6,3,2,1] [105,104,103,102,101,51,50,0]
  try dsimp only at G
  obtain ⟨hi,hq⟩:=hC
  have hpl:ops.length≤j:=by rw [hq,YC,Yj];omega
  refine Ya (rZ G (qL r2) Z [36,35,34,33,21,20,19,10,7,6,3,2,1] [105,104,103,102,101,51,50,0] fun G=>Ya ?_)
  refine Zc G rfl (fun hc1=>?_) (fun hc1=>?_)
  ·have hil:j<(Nn g.txs i).ops.length:=by simp at hc1;omega
   have hkb:=(hl _ (nth_mem hio)).2 _ (nth_mem hil)
   have htb:=(ZcB (hro _ (nth_mem hio) _ (nth_mem hil))).2.1
   have hwk:IntKind.wrap .i64 ((Nn (Nn g.txs i).ops j).key+kc)=(Nn (Nn g.txs i).ops j).key+kc:=Zz ow
   have hwt:IntKind.wrap .i64 ((Nn (Nn g.txs i).ops j).tx+ia)=(Nn (Nn g.txs i).ops j).tx+ia:=Zz ow
   refine Yf (Za (Ya (Yg (Ya (Zb G (qy 4 Yb2 r2 (qf (oR true 4 .t) r1 qz (qf (oH [.bool false,.int .i64 0,.int .i64 0,.int .i64 0] 106) trivial qz (qS 4 106 r2 r1 qZ)))) Z [35,34,33,21,20,19,12,10,7,6,3,2,1] [106,105,104,103,102,101,51,50,0] (fun _=>rfl) (fun _=>rfl) fun τ a w F G=>?_)))))
   try dsimp only [RS.sub,SF.sub,CF.sub,csub,Anc.sub,List.map,Ze,xL,xM,Nat.reduceAdd,xD,xE,xT,xU,xC,xN,zCF,ldSF,Zu,rTx,ZP,ZN,Zn,rOp] at G
   generalize τ 12=v12 at G
   try simp only [Yd] at G
   refine Za (Ya (Zg G (qg 1 106 r1 r1 (qa 106 r1 r1 (qR rr (qf (o_add .t .t) r2 qz (qg 1 106 r1 r1 (qf (ZaQ 106 .adr .t one_int kr kr) r2 r1 qZ)))))) Z [35,34,33,21,20,19,12,10,7,6,3,2,1] [106,105,104,103,102,101,51,50,0] rfl rfl fun a w F G=>?_))
   rw [hwk] at G
   refine Za (Ya (Ya (rZ G (qg 0 106 r1 r1 (qa 106 r1 r1 (qR rr (qv 2 106 rfl r2 r1 (qw 106 rfl r2 r1 (qk rfl (fun h=>o_neq (.w h) qi) r2 qz (qf (ZH .t .t) r2 qz qZ))))))) Z [50,35,34,33,21,20,19,12,10,7,6,3,2,1] [106,105,104,103,102,101,51,50,0] fun G=>?_)))
   refine Zc G rfl (fun hc2=>?_) (fun hc2=>?_)
   ·have hel:(⟨(Nn (Nn g.txs i).ops j).read,(Nn (Nn g.txs i).ops j).key+kc,(Nn (Nn g.txs i).ops j).tx+ia,(Nn (Nn g.txs i).ops j).nth⟩:OpD)=shO ia kc (Nn (Nn g.txs i).ops j):=by unfold shO;rw [Ye (by simpa using hc2)]
    refine Zg G (qg 2 106 r1 r1 (qa 106 r1 r1 (qR rr (qf (o_add .t .t) r2 qz (qg 2 106 r1 r1 (qf (ZaQ 106 .adr .t one_int kr kr) r2 r1 qZ)))))) Z [35,34,33,21,20,19,12,10,7,6,3,2,1] [106,105,104,103,102,101,51,50,0] rfl rfl fun a w F G=>?_
    rw [hwt] at G
    refine Za (Zb G (qg 2 105 r1 r1 (qa 105 r1 r1 (qe 4 106 r1 r1 (qf (o_buildSliceE (sz:=4) (zs:=[.bool false,.int .i64 0,.int .i64 0,.int .i64 0]) (r:=[(0,.tmp 58)]) (l:=[_,_,_,_]) Yb2 kr kr kr kr rfl rfl (.agg rfl .t kr kr .nil) rfl) r1 qz (qf (o_append (sz:=4) (bs:=32) 51 (.mk' Yb2 kr kr) (by intro x;rfl) .is (.arr (l':=[(⟨(Nn (Nn g.txs i).ops j).read,(Nn (Nn g.txs i).ops j).key+kc,(Nn (Nn g.txs i).ops j).tx+ia,(Nn (Nn g.txs i).ops j).nth⟩:OpD)]) .t) (by simp only [Yc,Yk,Yv];omega) (by decide)) ⟨rfl,rfl,tv⟩ ⟨rfl,tv⟩ (qg 2 105 r1 r1 (qf (ZaL 105 .adr kr kr) r2 r1 qZ))))))) Z [35,34,33,21,20,19,10,7,6,3,2,1] [106,105,104,103,102,101,51,50,0] (fun _=>rfl) (fun _=>rfl) fun τ a w F G=>?_)
    try dsimp only [RS.sub,SF.sub,CF.sub,csub,Anc.sub,List.map,Ze,xL,xM,Nat.reduceAdd,xD,xE,xT,xU,xC,xN,zCF,ldSF,Zu,rTx,ZP,ZN,Zn,rOp] at G
    generalize τ 60=v60 at G
    rw [hel] at G
    refine Zj (Za (rZ G (qp r1 (qR rr qZ)) Z [35,34,33,21,20,19,10,7,6,3,2,1] [106,105,104,103,102,101,51,50,0] fun G=>?_))
    replace G:=G.ent (i:=35) (s':=.pv (.int .i64 ((j+1:Nat):Int))) rfl (.int (Zd ow))
    obtain ⟨F,G⟩:=G.nM [34,33,21,20,19,10,7,6,3,2,1,35] [104,103,102,101,50,0,51,105]
    exact ⟨((j+1),(v60),(ops ++ [shO ia kc (Nn (Nn g.txs i).ops j)])),F,⟨by omega,(by rw [Zs hil,YJ,← hq,YaR])⟩,G,by omega⟩
   have hel:(⟨(Nn (Nn g.txs i).ops j).read,(Nn (Nn g.txs i).ops j).key+kc,(Nn (Nn g.txs i).ops j).tx,(Nn (Nn g.txs i).ops j).nth⟩:OpD)=shO ia kc (Nn (Nn g.txs i).ops j):=by unfold shO;rw [Yb (by simpa using hc2)]
   refine Yf (Za (Zb G (qg 2 105 r1 r1 (qa 105 r1 r1 (qe 4 106 r1 r1 (qf (o_buildSliceE (sz:=4) (zs:=[.bool false,.int .i64 0,.int .i64 0,.int .i64 0]) (r:=[(0,.tmp 58)]) (l:=[_,_,_,_]) Yb2 kr kr kr kr rfl rfl (.agg rfl .t kr kr .nil) rfl) r1 qz (qf (o_append (sz:=4) (bs:=32) 51 (.mk' Yb2 kr kr) (by intro x;rfl) .is (.arr (l':=[(⟨(Nn (Nn g.txs i).ops j).read,(Nn (Nn g.txs i).ops j).key+kc,(Nn (Nn g.txs i).ops j).tx,(Nn (Nn g.txs i).ops j).nth⟩:OpD)]) .t) (by simp only [Yc,Yk,Yv];omega) (by decide)) ⟨rfl,rfl,tv⟩ ⟨rfl,tv⟩ (qg 2 105 r1 r1 (qf (ZaL 105 .adr kr kr) r2 r1 qZ))))))) Z [35,34,33,21,20,19,10,7,6,3,2,1] [106,105,104,103,102,101,51,50,0] (fun _=>rfl) (fun _=>rfl) fun τ a w F G=>?_))
   try dsimp only [RS.sub,SF.sub,CF.sub,csub,Anc.sub,List.map,Ze,xL,xM,Nat.reduceAdd,xD,xE,xT,xU,xC,xN,zCF,ldSF,Zu,rTx,ZP,ZN,Zn,rOp] at G
   generalize τ 60=v60 at G
   rw [hel] at G
   refine Zj (Za (rZ G (qp r1 (qR rr qZ)) Z [35,34,33,21,20,19,10,7,6,3,2,1] [106,105,104,103,102,101,51,50,0] fun G=>?_))
   replace G:=G.ent (i:=35) (s':=.pv (.int .i64 ((j+1:Nat):Int))) rfl (.int (Zd ow))
   obtain ⟨F,G⟩:=G.nM [34,33,21,20,19,10,7,6,3,2,1,35] [104,103,102,101,50,0,51,105]
   exact ⟨((j+1),(v60),(ops ++ [shO ia kc (Nn (Nn g.txs i).ops j)])),F,⟨by omega,(by rw [Zs hil,YJ,← hq,YaR])⟩,G,by omega⟩
  have hil:j=(Nn g.txs i).ops.length:=by simp at hc1;omega
  rw [hil,YD] at hq
  obtain ⟨F,G⟩:=G.giveCell 51 105 2 rfl rfl rfl rfl rfl
  try dsimp only [List.set] at G
  obtain ⟨F,G⟩:=G.nM [36,35,34,33,21,20,19,10,7,6,3,2,1] [105,104,103,102,101,50,0]
  have hop:ops=(Nn g.txs i).ops.map (shO ia kc):=hq
  refine Yz (Zh (Zh (Zr (Za (Zb G (qg 0 103 r1 r1 (qa 103 r1 r1 (qe 3 105 r1 r1 (qf (o_buildSliceE (sz:=3) (zs:=[.int .i64 0,.bool false,.slice none 0 0]) (r:=[(0,.tmp 65)]) (l:=[_,_,_]) Yb3 kr kr kr kr rfl rfl (.agg rfl .t kr kr .nil) rfl) r1 qz (qf (o_append (sz:=3) (bs:=40) 50 (.mk' Yb3 kr kr) (by intro x;rfl) .is (.arr (l':=[(⟨(Nn g.txs i).id+ia,(Nn g.txs i).done,ops⟩:TxD)]) .t) (by simp only [Yc,Yk,Yv];omega) (by decide)) ⟨rfl,rfl,tv⟩ ⟨rfl,tv⟩ (qg 0 103 r1 r1 (qf (ZaL 103 .adr kr kr) r2 r1 qZ))))))) Z [21,20,19,7,6,3,2,1] [105,104,103,102,101,50,0] (fun _=>rfl) (fun _=>rfl) fun τ a w F G=>?_)))))
  try dsimp only [RS.sub,SF.sub,CF.sub,csub,Anc.sub,List.map,Ze,xL,xM,Nat.reduceAdd,xD,xE,xT,xU,xC,xN,zCF,ldSF,Zu,rTx,ZP,ZN,Zn,rOp] at G
  generalize τ 67=v67 at G
  rw [show (⟨(Nn g.txs i).id+ia,(Nn g.txs i).done,ops⟩:TxD)=shT ia kc (Nn g.txs i) from by rw [hop];rfl] at G
  refine Zj (Za (rZ G (qp r1 (qR rr qZ)) Z [21,20,19,7,6,3,2,1] [105,104,103,102,101,50,0] fun G=>?_))
  replace G:=G.ent (i:=21) (s':=.pv (.int .i64 ((i+1:Nat):Int))) rfl (.int (Zd ow))
  obtain ⟨F,G⟩:=G.nM [20,19,7,6,3,2,1,21] [102,101,0,50,103]
  exact ⟨((i+1),(v67),(out ++ [shT ia kc (Nn g.txs i)])),F,⟨by omega,(by rw [Zs hio,YJ,← hqo,YaR])⟩,G,by omega⟩
 have hil:i=g.txs.length:=by simp at hc0;omega
 rw [hil,YD] at hq
 obtain ⟨F,G⟩:=G.giveCell 50 103 0 rfl rfl rfl rfl rfl
 try dsimp only [List.set] at G
 obtain ⟨F,G⟩:=G.nM [22,21,20,19,7,6,3,2,1] [103,102,101,0]
 have hq1:out=g.txs.map (shT ia kc):=hq
 refine Yz (Zh (Zh (Zr (Za (Ya (Ya (Zg G (qg 1 101 r1 r1 (qa 101 r1 r1 (qu Yb5 r1 (qJ qZ)))) Z [73,72,71,7,6,2,1] [103,102,101,0] rfl rfl fun a w F G=>?_)))))))
 replace G:=G.fresh 52 rfl
 replace G:=G.turn 52 rfl (Zas (T:=70) (sz:=2) (R:=ZP))
 obtain ⟨F,G⟩:=G.nM [73,72,71,7,6,2,1] [103,102,101,52,0]
 refine Za (Yg (Zm (σ:=(Nat)×(Value)×(List OrdD)) [1,2,6,7,71,72] [0,101,102] (fun s=>[(73,.pv (.int .i64 (s.1:Int)))]) (fun s=>[(103,.pt (.val v7) 25 [.pv (.sl rTx out),.pv (.is s.2.1)]),(52,.ob (.val s.2.1) (ZC 70 2 ZP s.2.2))]) (fun s=>s.1≤g.orders.length∧(s.2.2=(g.orders.take s.1).map (shR ia kc))) (fun s=>g.orders.length - s.1) ((0),((.slice none 0 0)),([])) G ⟨rfl,rfl,rfl,rfl,rfl,rfl,rfl,tv⟩ ⟨rfl,rfl,rfl,rfl,rfl,tv⟩ ⟨Yx _,rfl⟩ ?_))
 clear G;intro s a w F hC G
 obtain ⟨i,u2,outo⟩:=s
 try dsimp only at hC
 obtain ⟨F,G⟩:=G.nM [73,72,71,7,6,2,1] [103,102,101,52,0]
 try dsimp only at G
 obtain ⟨hi,hq⟩:=hC
 have hox:=fun hil:i<g.orders.length=>hso.at hil
 have hol2:outo.length≤i:=by rw [hq,YC,Yj];omega
 refine Ya (rZ G (qL r2) Z [74,73,72,71,7,6,2,1] [103,102,101,52,0] fun G=>Ya ?_)
 refine Zc G rfl (fun hc3=>?_) (fun hc3=>?_)
 ·have hil:i<g.orders.length:=by simp at hc3;omega
  have hio:=hil
  have hqo:=hq
  have hoxl:=hox hil
  have hob:=hor _ (nth_mem hil)
  have hwok:IntKind.wrap .i64 ((Nn g.orders i).key+kc)=(Nn g.orders i).key+kc:=Zz ow
  refine Yf (Za (Ya (Yg (Ya (Zb G (qy 2 Yb5 r2 (qf (oR true 2 .t) r1 qz (qf (oH [.int .i64 0,.slice none 0 0] 107) trivial qz (qS 2 107 r2 r1 qZ)))) Z [73,72,71,14,7,6,2,1] [107,103,102,101,52,0] (fun _=>rfl) (fun _=>rfl) fun τ a w F G=>?_)))))
  try dsimp only [RS.sub,SF.sub,CF.sub,csub,Anc.sub,List.map,Ze,xL,xM,Nat.reduceAdd,xD,xE,xT,xU,xC,xN,zCF,ldSF,Zu,rTx,ZP,ZN,Zn,rOp] at G
  generalize τ 14=v14 at G
  try simp only [Yd] at G
  refine Za (Ya (Zb G (qg 0 107 r1 r1 (qa 107 r1 r1 (qR rr (qf (o_add .t .t) r2 qz (qf (oB [(0,.tmp 80)] [.int .i64 0,.slice none 0 0] [(0,1),(1,1)] (.one rfl .t one_int kr .nil)) r1 qz (qf (oH [.int .i64 0,.slice none 0 0] 108) trivial qz (qS 2 108 r2 r1 qZ))))))) Z [73,72,71,15,14,7,6,2,1] [108,107,103,102,101,52,0] (fun _=>rfl) (fun _=>rfl) fun τ a w F G=>?_))
  try dsimp only [RS.sub,SF.sub,CF.sub,csub,Anc.sub,List.map,Ze,xL,xM,Nat.reduceAdd,xD,xE,xT,xU,xC,xN,zCF,ldSF,Zu,rTx,ZP,ZN,Zn,rOp] at G
  generalize τ 15=v15 at G
  rw [hwok] at G
  replace G:=G.fresh 53 rfl
  replace G:=G.turn 53 rfl (Zas (T:=3) (sz:=1) (R:=Zn))
  obtain ⟨F,G⟩:=G.nM [73,72,71,15,14,7,6,2,1] [108,107,103,102,101,53,52,0]
  refine Za (Ya (Ya (rZ G (qg 1 107 r1 r1 (qa 107 r1 r1 (qu Yb0 r1 (qJ qZ)))) Z [85,84,83,73,72,71,15,7,6,2,1] [108,107,103,102,101,53,52,0] fun G=>Yg ?_)))
  refine Zm (σ:=(Nat)×(Value)×(List Int)) [1,2,6,7,15,71,72,73,83,84] [0,52,101,102,103,107] (fun s=>[(85,.pv (.int .i64 (s.1:Int)))]) (fun s=>[(108,.pt (.val v15) 70 [.pv (.int .i64 ((Nn g.orders i).key+kc)),.pv (.is s.2.1)]),(53,.ob (.val s.2.1) (ZC 3 1 Zn s.2.2))]) (fun s=>s.1≤(Nn g.orders i).txs.length∧(s.2.2=((Nn g.orders i).txs.take s.1).map (· + ia))) (fun s=>(Nn g.orders i).txs.length - s.1) ((0),((.slice none 0 0)),([])) G ⟨rfl,rfl,rfl,rfl,rfl,rfl,rfl,rfl,rfl,rfl,rfl,tv⟩ ⟨rfl,rfl,rfl,rfl,rfl,rfl,rfl,rfl,tv⟩ ⟨Yx _,rfl⟩ ?_
  clear G;intro s a w F hC G
  obtain ⟨j,z2,tx2⟩:=s
  try dsimp only at hC
  obtain ⟨F,G⟩:=G.nM [85,84,83,73,72,71,15,7,6,2,1] [108,107,103,102,101,53,52,0]
  try dsimp only at G
  obtain ⟨hi,hq⟩:=hC
  have hpl:tx2.length≤j:=by rw [hq,YC,Yj];omega
  refine Ya (rZ G (qL r2) Z [86,85,84,83,73,72,71,15,7,6,2,1] [108,107,103,102,101,53,52,0] fun G=>Ya ?_)
  refine Zc G rfl (fun hc4=>?_) (fun hc4=>?_)
  ·have hil:j<(Nn g.orders i).txs.length:=by simp at hc4;omega
   have hxb:=hob.2 _ (nth_mem hil)
   have hwx:IntKind.wrap .i64 (Nn (Nn g.orders i).txs j+ia)=Nn (Nn g.orders i).txs j+ia:=Zz ow
   refine Yf (Za (Ya (Yg (Ya (Zg G (qy 1 Yb0 r2 (qf (oR false 1 .t) r1 qz (qO rr qZ))) Z [85,84,83,73,72,71,17,15,7,6,2,1] [108,107,103,102,101,53,52,0] rfl rfl fun a w F G=>?_)))))
   try simp only [Yd] at G
   refine Za (Zb G (qg 1 108 r1 r1 (qa 108 r1 r1 (qR rr (qR rr (qf (o_add .t .t) r2 qz (qf (o_buildSliceE (sz:=1) (zs:=[.int .i64 0]) (r:=[(0,.tmp 93)]) (l:=[_]) Yb0 kr kr kr kr rfl rfl (.one rfl .t one_int kr .nil) rfl) r1 qz (qf (o_append (sz:=1) (bs:=8) 53 (.mk' Yb0 kr kr) (by intro x;rfl) .is (.arr (l':=[(IntKind.wrap .i64 (Nn (Nn g.orders i).txs j+ia))]) .t) (by simp only [Yc,Yk,Yv];omega) (by decide)) ⟨rfl,rfl,tv⟩ ⟨rfl,tv⟩ (qg 1 108 r1 r1 (qf (ZaL 108 .adr kr kr) r2 r1 qZ))))))))) Z [85,84,83,73,72,71,15,7,6,2,1] [108,107,103,102,101,53,52,0] (fun _=>rfl) (fun _=>rfl) fun τ a w F G=>?_)
   try dsimp only [RS.sub,SF.sub,CF.sub,csub,Anc.sub,List.map,Ze,xL,xM,Nat.reduceAdd,xD,xE,xT,xU,xC,xN,zCF,ldSF,Zu,rTx,ZP,ZN,Zn,rOp] at G
   generalize τ 95=v95 at G
   rw [hwx] at G
   refine Zj (Za (rZ G (qp r1 (qR rr qZ)) Z [85,84,83,73,72,71,15,7,6,2,1] [108,107,103,102,101,53,52,0] fun G=>?_))
   replace G:=G.ent (i:=85) (s':=.pv (.int .i64 ((j+1:Nat):Int))) rfl (.int (Zd ow))
   obtain ⟨F,G⟩:=G.nM [84,83,73,72,71,15,7,6,2,1,85] [107,103,102,101,52,0,53,108]
   exact ⟨((j+1),(v95),(tx2 ++ [Nn (Nn g.orders i).txs j+ia])),F,⟨by omega,(by rw [Zs hil,YJ,← hq,YaR])⟩,G,by omega⟩
  have hil:j=(Nn g.orders i).txs.length:=by simp at hc4;omega
  rw [hil,YD] at hq
  obtain ⟨F,G⟩:=G.giveCell 53 108 1 rfl rfl rfl rfl rfl
  try dsimp only [List.set] at G
  obtain ⟨F,G⟩:=G.nM [86,85,84,83,73,72,71,15,7,6,2,1] [108,107,103,102,101,52,0]
  have hop2:tx2=(Nn g.orders i).txs.map (· + ia):=hq
  refine Yz (Zh (Zh (Zr (Za (Zb G (qg 1 103 r1 r1 (qa 103 r1 r1 (qe 2 108 r1 r1 (qf (o_buildSliceE (sz:=2) (zs:=[.int .i64 0,.slice none 0 0]) (r:=[(0,.tmp 100)]) (l:=[_,_]) Yb5 kr kr kr kr rfl rfl (.agg rfl .t kr kr .nil) rfl) r1 qz (qf (o_append (sz:=2) (bs:=32) 52 (.mk' Yb5 kr kr) (by intro x;rfl) .is (.arr (l':=[(⟨(Nn g.orders i).key+kc,tx2⟩:OrdD)]) .t) (by simp only [Yc,Yk,Yv];omega) (by decide)) ⟨rfl,rfl,tv⟩ ⟨rfl,tv⟩ (qg 1 103 r1 r1 (qf (ZaL 103 .adr kr kr) r2 r1 qZ))))))) Z [73,72,71,7,6,2,1] [108,107,103,102,101,52,0] (fun _=>rfl) (fun _=>rfl) fun τ a w F G=>?_)))))
  try dsimp only [RS.sub,SF.sub,CF.sub,csub,Anc.sub,List.map,Ze,xL,xM,Nat.reduceAdd,xD,xE,xT,xU,xC,xN,zCF,ldSF,Zu,rTx,ZP,ZN,Zn,rOp] at G
  generalize τ 102=v102 at G
  rw [show (⟨(Nn g.orders i).key+kc,tx2⟩:OrdD)=shR ia kc (Nn g.orders i) from by rw [hop2];rfl] at G
  refine Zj (Za (rZ G (qp r1 (qR rr qZ)) Z [73,72,71,7,6,2,1] [108,107,103,102,101,52,0] fun G=>?_))
  replace G:=G.ent (i:=73) (s':=.pv (.int .i64 ((i+1:Nat):Int))) rfl (.int (Zd ow))
  obtain ⟨F,G⟩:=G.nM [72,71,7,6,2,1,73] [102,101,0,52,103]
  exact ⟨((i+1),(v102),(outo ++ [shR ia kc (Nn g.orders i)])),F,⟨by omega,(by rw [Zs hio,YJ,← hqo,YaR])⟩,G,by omega⟩
 have hil:i=g.orders.length:=by simp at hc3;omega
 rw [hil,YD] at hq
 obtain ⟨F,G⟩:=G.giveCell 52 103 1 rfl rfl rfl rfl rfl
 try dsimp only [List.set] at G
 obtain ⟨F,G⟩:=G.nM [74,73,72,71,7,6,2,1] [103,102,101,0]
 refine Yz (Zh (Zh (Zr (Za (Ya (rZ G (qe 2 103 r1 r1 (qs 2 102 r2 r1 qZ)) Z [6] [103,102,101,0] fun G=>Yh ?_))))))
 refine Zae hfr G rfl (.cl 102 true 2 rfl rfl .nil) (.one (.aggU rfl (by rw [hq1,hq];rfl)))
theorem ZrG {g:Zo} (hl:ZjM 1000000 g) (hr:ZO g):∀ o ∈ g.orders,(1≤o.key∧o.key≤1000000) ∧ ∀ x ∈ o.txs,1≤x∧x≤1000000:=by
 intro o ho
 obtain ⟨i,hi,e⟩:=YH ho
 obtain ⟨b1,b2⟩:=hr.2.2.2 i hi
 rw [nth_eq hi,e] at b1 b2
 refine ⟨?_,fun x hx=>?_⟩
 ·have hk:o.key ∈ Za4 g.txs:=by rw [b1];exact nth_mem (by rw [← hr.2.2.1];exact hi)
  obtain ⟨t,ht,_,hk⟩:=Zdu.1 hk
  obtain ⟨p,hp,_,e2⟩:=Zcw.1 hk
  rw [← e2];exact (hl t ht).2 p hp
 ·have h1:=b2.mem_iff.1 hx
  unfold ZG at h1
  obtain ⟨t,ht,rfl⟩:=Yu.1 h1
  exact (hl t (YN.1 ht).1).1
theorem ZmE {g:Zo} (hr:ZO g):∀ t ∈ g.txs,∀ o ∈ t.ops,ZaA o=true:=by
 intro t ht
 obtain ⟨i,hi,e⟩:=YH ht
 have h:=(hr.2.1 i hi).2.1
 rw [nth_eq hi,e] at h
 exact (Zed h).2.2
theorem ZpP {g:Zo} (h:ZjM 1000 g):ZjM 1000000 g:=fun t ht=>⟨⟨(h t ht).1.1,by have:=(h t ht).1.2;omega⟩,fun o ho=>⟨((h t ht).2 o ho).1,by have:=((h t ht).2 o ho).2;omega⟩⟩
theorem ZmY (g x:Zo):FnP prog 4 [.agg (Zu g),.agg (Zu x)] (.bool true):=by
 refine FnP.mk func4 rfl ntmps4 rfl fun B a w F Z hfr G=>Ya ?_
 refine Zb G (qx 101 r1 (qx 102 r1 qB)) Z [4,3,2] [102,101,0] (fun _=>rfl) (fun _=>rfl) fun τ a w F G=>?_
 try dsimp only [RS.sub,SF.sub,CF.sub,csub,Anc.sub,List.map,zCF,Zu,rTx,ZP,ZN,Zn,rOp,ZeV] at G
 generalize τ 2=v2,τ 3=v3 at G
 refine Za (Ya (Ya (rZ G (qf (oP (Zk6) func10 Args.nil) trivial qz (qf (o_not .t) r1 qz qZ)) Z [16,4,3,2] [102,101,0] fun G=>?_)))
 refine Zc G rfl (fun hc0=>?_) (fun hc0=>?_)
 ·simp at hc0
 refine Yf (Za (Ya (Ya (rZ G (qe 2 101 r1 r1 (qf (oP (ZkT g) func11 (Args.one (.pagg .t))) r1 qz (qf (o_not .t) r1 qz (qR rr (qk rfl (fun h=>oL true 2 102 .is) r2 r1 (qk rfl (fun h=>oP (ZkT x) func11 (Args.one (.pagg (.w h)))) r2 qz (qk rfl (fun h=>o_not (.w h)) r2 qz (qf (Zaa .t .t) r2 qz (qR rr (qk rfl (fun h=>oL true 2 101 .is) r2 r1 (qk rfl (fun h=>oP (ZsU g 1000 (ZaC.small (by simp at h;exact h.1)).1) func18 (Args.two (.pagg (.w h)) qi)) r2 qz (qk rfl (fun h=>o_not (.w h)) r2 qz (qf (Zaa .t .t) r2 qz (qR rr (qk rfl (fun h=>oL true 2 102 .is) r2 r1 (qk rfl (fun h=>oP (ZsU x 1000 (ZaC.small (by simp at h;exact h.1.2)).1) func18 (Args.two (.pagg (.w h)) qi)) r2 qz (qk rfl (fun h=>o_not (.w h)) r2 qz (qf (Zaa .t .t) r2 qz (qR rr (qk rfl (fun h=>oL true 2 101 .is) r2 r1 (qk rfl (fun h=>oP (ZcR g (ZaC.small (by simp at h;exact h.1.1.1))) func19 (Args.one (.pagg (.w h)))) r2 qz (qk rfl (fun h=>o_not (.w h)) r2 qz (qf (Zaa .t .t) r2 qz (qR rr (qk rfl (fun h=>oL true 2 102 .is) r2 r1 (qk rfl (fun h=>oP (ZcR x (ZaC.small (by simp at h;exact h.1.1.1.2))) func19 (Args.one (.pagg (.w h)))) r2 qz (qk rfl (fun h=>o_not (.w h)) r2 qz (qf (Zaa .t .t) r2 qz qZ)))))))))))))))))))))))))))) Z [44,4,3,2] [102,101,0] fun G=>?_))))
 refine Zc G rfl (fun hc1=>?_) (fun hc1=>?_)
 ·refine Ya (rZ G qB Z [4,3,2] [102,101,0] fun G=>(Yh (Zl ?_)))
  refine Zv hfr G rfl rfl rfl (.bool rfl)
 have h9:=hc1
 simp at h9
 obtain ⟨⟨⟨⟨⟨hlg,hlx⟩,hlog⟩,hlox⟩,hrg⟩,hrx⟩:=h9
 have hfg:=ZiT hlg
 have hfx:=ZiT hlx
 obtain ⟨hsm,hAR⟩:=ZdJ hfg (by decide)
 obtain ⟨hsx,hAx⟩:=ZdJ hfx (by decide)
 obtain ⟨hfb,hfc⟩:=Zqq hlg hlx 1000 1000
 obtain ⟨hsb,hAb⟩:=ZdJ hfb (by decide)
 obtain ⟨hsc,hAc⟩:=ZdJ hfc (by decide)
 have hap:=Zju hlg hlx hlog hlox hrg hrx
 have hlx6:=ZpP hlox
 have htl1:=hsm.1.1
 have htl2:=hsc.1.1
 have hol1:=hsm.2.1
 have hol2:=hsc.2.1
 refine Yf (Za (Ya (Zb G (qe 2 102 r1 r1 (qf (oP (ZnS x 1000 1000 hsx (by decide) (by decide) hlx6 (ZmE hrx) (ZrG hlx6 hrx)) func20 (Args.three (.pagg .t) qi qi)) r1 qz (qf (oH [.slice none 0 0,.slice none 0 0] 103) trivial qz (qf (oA 2 103 .same (.conv .t .agg)) r2 r1 qZ)))) Z [5,4,2] [103,102,101,0] (fun _=>rfl) (fun _=>rfl) fun τ a w F G=>?_)))
 try dsimp only [RS.sub,SF.sub,CF.sub,csub,Anc.sub,List.map,Ze,xL,xM,Nat.reduceAdd,xD,xE,xT,xU,xC,xN,zCF,ldSF,Zu,rTx,ZP,ZN,Zn,rOp,ZeV] at G
 generalize τ 5=v5 at G
 refine Za (Ya (Zba G (qf (o_buildSlice0 (R:=rTx) (sz:=3) 104 Yb3 kr) trivial qz (qg 0 101 r1 r1 (qa 101 r1 r1 (qf (o_append (sz:=3) (bs:=40) 104 (.mk' Yb3 kr kr) (by intro x;rfl) .same (.sl .t) (by simp only [Yc,Yv];omega) (by decide)) ⟨rfl,rfl,tv⟩ ⟨rfl,tv⟩ (qg 0 103 r1 r1 (qa 103 r1 r1 (qf (o_append (sz:=3) (bs:=40) 104 (.mk' Yb3 kr kr) (by intro x;rfl) .same (.sl .t) (by simp only [Yc,Yv];omega) (by decide)) ⟨rfl,rfl,tv⟩ ⟨rfl,tv⟩ (qf (o_buildSlice0 (R:=ZP) (sz:=2) 105 Yb5 kr) trivial qz (qg 1 101 r1 r1 (qa 101 r1 r1 (qf (o_append (sz:=2) (bs:=32) 105 (.mk' Yb5 kr kr) (by intro x;rfl) .same (.sl .t) (by simp only [Yc,Yv];omega) (by decide)) ⟨rfl,rfl,tv⟩ ⟨rfl,tv⟩ (qg 1 103 r1 r1 (qa 103 r1 r1 (qf (o_append (sz:=2) (bs:=32) 105 (.mk' Yb5 kr kr) (by intro x;rfl) .same (.sl .t) (by simp only [Yc,Yv];omega) (by decide)) ⟨rfl,rfl,tv⟩ ⟨rfl,tv⟩ (qf (oB [(0,.tmp 53),(1,.tmp 60)] [.slice none 0 0,.slice none 0 0] [(0,1),(1,1)] (.same rfl kr (.same rfl kr .nil))) r2 qz (qf (oH [.slice none 0 0,.slice none 0 0] 106) trivial qz (qS 2 106 r2 r1 qZ))))))))))))))))) Z [6,5,4,2] [106,105,104,103,102,101,0] (fun _=>rfl) (fun _=>rfl) fun τ a w F G=>?_))
 try dsimp only [RS.sub,SF.sub,CF.sub,csub,Anc.sub,List.map,Ze,xL,xM,Nat.reduceAdd,xD,xE,xT,xU,xC,xN,zCF,ldSF,Zu,rTx,ZP,ZN,Zn,rOp,ZeV] at G
 generalize τ 6=v6,τ 53=v53,τ 60=v60 at G
 obtain ⟨F,G⟩:=G.giveCell 104 106 0 rfl rfl rfl rfl rfl
 try dsimp only [List.set] at G
 obtain ⟨F,G⟩:=G.nM [6,5,4,2] [106,105,103,102,101,0]
 obtain ⟨F,G⟩:=G.giveCell 105 106 1 rfl rfl rfl rfl rfl
 try dsimp only [List.set] at G
 obtain ⟨F,G⟩:=G.nM [6,5,4,2] [106,103,102,101,0]
 try simp only [Yai] at G
 refine Za (Ya (Ya (rZ G (qe 2 106 r1 r1 (qf (oP (ZcR (Za2 g (shH 1000 1000 x)) hsb) func19 (Args.one (.pagg .t))) r1 qz (qf (o_not .t) r1 qz qZ))) Z [64,6,5,4,2] [106,103,102,101,0] fun G=>?_)))
 refine Zc G rfl (fun hc2=>?_) (fun hc2=>?_)
 ·rw [Yaa hap.right] at hc2;simp at hc2
 refine Yf (Za (Ya (Ya (rZ G (qI qZ) Z [7,6,5,4,2] [106,103,102,101,0] fun G=>Yg ?_))))
 replace G:=G.ent (i:=7) (s':=.pv (.int .i64 ((1:Nat):Int))) rfl (.int rfl)
 refine Zm (σ:=Nat) [2,4,5,6] [0,101,102,103,106] (fun s=>[(7,.pv (.int .i64 (s:Int)))]) (fun s=>[]) (fun s=>True) (fun s=>6 - s) (1) G ⟨rfl,rfl,rfl,rfl,rfl,tv⟩ ⟨rfl,rfl,rfl,rfl,rfl,tv⟩ trivial ?_
 clear G;intro p a w F hC G
 try dsimp only at hC
 obtain ⟨F,G⟩:=G.nM [7,6,5,4,2] [106,103,102,101,0]
 try dsimp only at G
 refine Ya (Ya (rZ G (qR rr (qf (Zar .t qi) r1 qz qZ)) Z [66,7,6,5,4,2] [106,103,102,101,0] fun G=>?_))
 refine Zc G rfl (fun hc3=>?_) (fun hc3=>?_)
 ·have hp6:p<6:=by have h9:=Yw hc3;omega
  obtain ⟨U,hU⟩:=Zkd (ZV g) (p:Int)
  obtain ⟨V,hV⟩:=Zkd (ZV (shH 1000 1000 x)) (p:Int)
  have hW:=hap.walk hU hV
  refine Yf (Za (Ya (Yg (Ya (Zb G (qe 2 101 r1 r1 (qR rr (qf (oP (Zqj g hsm hAR (p:Int) U hU) func12 (Args.two (.pagg .t) .t)) r2 qz (qR rr (qf (Zi .t rfl) r1 qz (qf (Zi .t rfl) r1 qz (qf (oH [.int .i64 0,.slice none 0 0,.int .i64 0,.int .i64 0,.int .i64 0,.int .i64 0,.int .i64 0] 107) trivial qz (qf (oA 7 107 .same (.conv .t .agg)) r2 r1 (qO rr qZ))))))))) Z [9,8,7,6,5,4,2] [107,106,103,102,101,0] (fun _=>rfl) (fun _=>rfl) fun τ a w F G=>?_)))))
  try dsimp only [RS.sub,SF.sub,CF.sub,csub,Anc.sub,List.map,Ze,xL,xM,Nat.reduceAdd,xD,xE,xT,xU,xC,xN,zCF,ldSF,Zu,rTx,ZP,ZN,Zn,rOp,ZeV] at G
  generalize τ 8=v8 at G
  refine Za (Ya (Zb G (qe 2 103 r1 r1 (qR rr (qf (oP (Zqj (shH 1000 1000 x) hsc hAc (p:Int) V hV) func12 (Args.two (.pagg .t) .t)) r2 qz (qR rr (qf (Zi .t rfl) r1 qz (qf (Zi .t rfl) r1 qz (qf (oH [.int .i64 0,.slice none 0 0,.int .i64 0,.int .i64 0,.int .i64 0,.int .i64 0,.int .i64 0] 108) trivial qz (qf (oA 7 108 .same (.conv .t .agg)) r2 r1 (qO rr qZ))))))))) Z [11,10,9,8,7,6,5,4,2] [108,107,106,103,102,101,0] (fun _=>rfl) (fun _=>rfl) fun τ a w F G=>?_))
  try dsimp only [RS.sub,SF.sub,CF.sub,csub,Anc.sub,List.map,Ze,xL,xM,Nat.reduceAdd,xD,xE,xT,xU,xC,xN,zCF,ldSF,Zu,rTx,ZP,ZN,Zn,rOp,ZeV] at G
  generalize τ 10=v10 at G
  refine Za (Ya (Zb G (qe 2 106 r1 r1 (qR rr (qf (oP (Zqj (Za2 g (shH 1000 1000 x)) hsb hAb (p:Int) (Zhm U V) hW) func12 (Args.two (.pagg .t) .t)) r2 qz (qR rr (qf (Zi .t rfl) r1 qz (qf (Zi .t rfl) r1 qz (qf (oH [.int .i64 0,.slice none 0 0,.int .i64 0,.int .i64 0,.int .i64 0,.int .i64 0,.int .i64 0] 109) trivial qz (qf (oA 7 109 .same (.conv .t .agg)) r2 r1 (qO rr qZ))))))))) Z [13,12,11,10,9,8,7,6,5,4,2] [109,108,107,106,103,102,101,0] (fun _=>rfl) (fun _=>rfl) fun τ a w F G=>?_))
  try dsimp only [RS.sub,SF.sub,CF.sub,csub,Anc.sub,List.map,Ze,xL,xM,Nat.reduceAdd,xD,xE,xT,xU,xC,xN,zCF,ldSF,Zu,rTx,ZP,ZN,Zn,rOp,ZeV] at G
  generalize τ 12=v12 at G
  refine Za (Ya (Ya (rZ G (qR rr (qR rr (qR rr (qm rfl rfl rfl rfl (qf (Zaa .t .t) r2 qz (qf (Zta underlying4 .t .t) r2 qz qZ)))))) Z [92,12,11,10,9,8,7,6,5,4,2] [109,108,107,106,103,102,101,0] fun G=>?_)))
  refine Zc G rfl (fun hc4=>?_) (fun hc4=>?_)
  ·rw [hap.ok] at hc4;simp at hc4
  refine Yf (Za (Ya (Zb G (qe 7 107 r1 r1 (qf (oH [.int .i64 0,.slice none 0 0,.int .i64 0,.int .i64 0,.int .i64 0,.int .i64 0,.int .i64 0] 110) trivial qz (qS 7 110 r2 r1 qZ))) Z [14,12,11,10,9,8,7,6,5,4,2] [110,109,108,107,106,103,102,101,0] (fun _=>rfl) (fun _=>rfl) fun τ a w F G=>?_)))
  try dsimp only [RS.sub,SF.sub,CF.sub,csub,Anc.sub,List.map,Ze,xL,xM,Nat.reduceAdd,xD,xE,xT,xU,xC,xN,zCF,ldSF,Zu,rTx,ZP,ZN,Zn,rOp,ZeV] at G
  generalize τ 14=v14 at G
  refine Za (Ya (Ya (Zg G (qR rr (qf (o_not .t) r1 qz (qR rr (qm rfl rfl rfl rfl (qk rfl (fun h=>oM (.w h)) r2 qz (Zy.cons (ZaD.cond2 rfl rfl (fun h=>Zbx (ag:=true) (sz:=7) 108 .is kr kr kr (by rfl))) r2 r1 (Zy.cons (ZaD.cond2 rfl rfl (fun h=>Zbx (ag:=true) (sz:=7) 107 .is kr kr kr (by rfl))) r2 r1 (Zy.cons (ZaD.cond2 rfl rfl (fun h=>Zg3 (Zrg (Zhv (shH 1000 1000 x) (p:Int) V) (Zhv g (p:Int) U) (ZoJ (p:Int) U V) (hap.ahead hU hV (by simpa using h.1) (by simpa using h.2))) func21 rfl kr (Args.two (.pagg (.w h)) (.pagg (.w h))))) r3 qz (qk rfl (fun h=>ZH (.w h) (.wc h)) r3 qz (qf (Zaa .t .t) r2 qz qZ)))))))))) Z [103,14,12,10,7,6,5,4,2] [110,109,108,107,106,103,102,101,0] rfl rfl fun a w F G=>?_)))
  try dsimp only [List.map,xD,xE,xT,xU,ldSF,Zu,rTx,ZP,ZN,Zn,rOp,ZeV] at G
  refine Za (Zc G rfl (fun hc5=>?_) (fun hc5=>?_))
  ·have htk:Zl5 g (shH 1000 1000 x) (p:Int) U V=true:=by unfold Zl5;simpa using hc5
   refine rZ G (qe 7 108 r1 r1 (qs 7 110 r2 r1 qZ)) Z [14,12,7,6,5,4,2] [110,109,108,107,106,103,102,101,0] fun G=>Ya ?_
   refine rZ G (qe 7 109 r1 r1 (qe 7 110 r1 r1 (qf (oP (Znb (Zhv (Za2 g (shH 1000 1000 x)) (p:Int) (Zhm U V)) (Zhv (shH 1000 1000 x) (p:Int) V)) func22 (Args.two (.pagg .t) (.pagg .t))) r2 qz (qf (o_not .t) r1 qz qZ)))) Z [108,7,6,5,4,2] [110,109,108,107,106,103,102,101,0] fun G=>?_
   refine Zc G rfl (fun hc6=>?_) (fun hc6=>?_)
   ·rw [hap.wit] at hc6;first | (rw [Ye htk] at hc6;simp at hc6;done) | (rw [Yb htk] at hc6;simp at hc6;done)
   refine Yf (Zj (Za (rZ G (qR rr (qp r1 (qO rr qZ))) Z [7,6,5,4,2] [110,109,108,107,106,103,102,101,0] fun G=>?_)))
   replace G:=G.ent (i:=7) (s':=.pv (.int .i64 ((p+1:Nat):Int))) rfl (.int (Zd ow))
   obtain ⟨F,G⟩:=G.nM [6,5,4,2,7] [106,103,102,101,0]
   exact ⟨(p+1),F,tv,G,by omega⟩
  have htk:¬ Zl5 g (shH 1000 1000 x) (p:Int) U V=true:=by unfold Zl5;simpa using hc5
  refine Yf (Za (Ya (rZ G (qe 7 109 r1 r1 (qe 7 110 r1 r1 (qf (oP (Znb (Zhv (Za2 g (shH 1000 1000 x)) (p:Int) (Zhm U V)) (Zhv g (p:Int) U)) func22 (Args.two (.pagg .t) (.pagg .t))) r2 qz (qf (o_not .t) r1 qz qZ)))) Z [108,7,6,5,4,2] [110,109,108,107,106,103,102,101,0] fun G=>?_)))
  refine Zc G rfl (fun hc7=>?_) (fun hc7=>?_)
  ·rw [hap.wit] at hc7;first | (rw [Ye htk] at hc7;simp at hc7;done) | (rw [Yb htk] at hc7;simp at hc7;done)
  refine Yf (Zj (Za (rZ G (qR rr (qp r1 (qO rr qZ))) Z [7,6,5,4,2] [110,109,108,107,106,103,102,101,0] fun G=>?_)))
  replace G:=G.ent (i:=7) (s':=.pv (.int .i64 ((p+1:Nat):Int))) rfl (.int (Zd ow))
  obtain ⟨F,G⟩:=G.nM [6,5,4,2,7] [106,103,102,101,0]
  exact ⟨(p+1),F,tv,G,by omega⟩
 refine Yz (Zh (Zh (Zr (Za (Ya (rZ G qB Z [4] [106,103,102,101,0] fun G=>Yh ?_))))))
 refine Zv hfr G rfl rfl rfl (.bool rfl)
end Go.Proofs.YtlkpllemoepamaaGreat
