/- Walks: rows changed in place. No condition. -/
import Derived.Test.YtfecljadegkmdaaGreatLibG
import Derived.Lib.AppendZerosOnto
import Derived.Lib.Overlaps
namespace Go.Gm
set_option linter.unusedVariables false
set_option linter.unusedSimpArgs false
set_option linter.unusedSectionVars false
def capV:Value→Nat
 | .slice _ _ c=>c
 | _=>0
def Zfu (i:Nat):Value→Value
 | .slice a _ c=>.slice a i c
 | v=>v
def Zpl (sz k:Nat):Value→Value
 | .slice (some a) n c=>.slice (some (if c - k=0 then a else ⟨a.block,a.off+k*sz,none⟩)) (n - k) (c - k)
 | v=>v
def ZmH (sz k m:Nat):Value→Value
 | .slice (some a) n c=>.slice (some ⟨a.block,a.off+k*sz,none⟩) (m - k) (c - k)
 | v=>v
theorem Ze6 {w:World} {b T sz cap n:Nat} {cur:Array Value} {us:List Value} (hg:w.heap[b]? = some (.cells cur T (0,0))) (hus:us.length=cap*sz) (hn:n≤cap) (hcm:cap≤maxLen):(w.setRow b us.toArray).ownsRow 0 T sz (.slice (some ⟨b,0,none⟩) n cap) n (us.take (n*sz)):=
 ⟨by rw [Yj,hus,YaQ (YE _ hn)],.inr ⟨b,cap,us.toArray,rfl,Yp _,Ybb w b cur _ T (0,0) hg,hn,hcm,by simpa using hus,by simp⟩⟩
section
variable {P:Program} {d:Option Nat} {t ty:TypeId} {pos:String} {af:Array Edge} {g:Option (Nat×Bool)} {x y z:Operand} {ps qs rs:List (Nat×SF)} {α:Type} {R:α→List PV} {l:List α} {e sz:Nat} {v:Value}
theorem Zfn {w:World} {dT sT ty elem g o dLen dCap n sz:Nat} {a:Addr} {sLen sCap:Nat} {cur:Array Value} {t:TypeId} {cs:List Value}
  (hu:P.underlying dT=some (.slice elem)) (hs:(P.info? elem).map (·.size)=some sz) (hg:w.heap[g]? = some (.cells cur t (0,0))) (hm:Nat.min sLen dLen=n) (hn:cs.length=n*sz)
  (hsrc:∀ j v,cs[j]? = some v→w.cell? (a.add j)=some v) (hfit:o+cs.length≤cur.size) (h1:∀ v ∈ cs,v.oneCell' = true) :
  (Builtin.copy_ #[dT,sT] ty #[.slice (some ⟨g,o,none⟩) dLen dCap,.slice (some a) sLen sCap]).run P w =
   .ok (goInt n) (w.setRow g (cur.toList.take o++cs++cur.toList.drop (o+cs.length)).toArray):=by
 have hl:=YaE (P:=P) w a cs hsrc
 have hst:=Yab P g o t cs 0 cur w hg (by simpa using hfit) h1
 cases hq:P.info? elem with
 | none=>simp [hq] at hs
 | some i=>
  have hi:i.size=sz:=by simpa [hq] using hs
  rw [YaX] at hst
  simp [Builtin.copy_,Yk hu,Builtin.lenOf,Builtin.firstCells,sizeOf,typeInfo,hq,hi,hm,← hn,hl,hst]
theorem ZhM (n:Nat) (hu:P.underlying t=some (.slice e)) (hx:Zal x ps (.val v)) :
  OpC P ⟨d,.call { callee:=.builtin .cap,args:=#[x],argTypes:=#[t] },ty,pos,af,g⟩ ⟨ps,[(n,.ob (.val v) (ZC e sz R l))],.pv (.int .i64 (capV v:Int)),[]⟩:=
 OpC.read fun act w F hp hr=>by
  obtain ⟨xs,h1,h2,h3⟩:=hr (n,.ob (.val v) (ZC e sz R l)) XA
  obtain ⟨ad,cap,e1,h4,h5,_⟩:=ZM h1
  simp only [Anc.v] at e1
  have e2:act.eval x = .slice ad l.length cap:=K7
  have e3:capV v=cap:=by rw [e1];rfl
  refine ⟨.int .i64 (capV v:Int),?_,fun _ _=>⟨rfl,?_⟩⟩
  ·rw [e3];simp [execOp,resolve,invoke,builtin,e2,Builtin.cap_,Yk hu,goInt]
  ·rw [e3];unfold maxLen at h5
   simp [inR,IntKind.min,IntKind.max,IntKind.signed,IntKind.bits];omega
theorem Sat.rowCap {B:ZaK} {E:En} {a:Act} {w:World} {F:Fp} (h:Sat B E a w F) {n:Nat} (hl:look E.r n=some (.ob (.val v) (ZC e sz R l))):l.length≤capV v∧capV v≤9223372036854775807:=by
 obtain ⟨xs,h1,h2,h3⟩:=h.r n _ hl
 obtain ⟨ad,cap,e1,h4,h5,_⟩:=ZM h1
 simp only [Anc.v] at e1
 rw [e1]
 exact ⟨h4,h5⟩
theorem Zcv {k:IntKind} {j:Int} (n:Nat) (he:ZaM P t e sz) (hx:Zal x ps (.val v)) (hy:Opd y qs (.pv (.int k j))) (h0:0≤j) (h1:j≤l.length) :
  OpC P ⟨d,.slice t x none (some y) none,ty,pos,af,g⟩ ⟨ps++qs,[(n,.ob (.val v) (ZC e sz R l))],.pv (.is (Zfu j.toNat v)),[]⟩:=
 OpC.read fun act w F hp hr=>by
  obtain ⟨xs,h2,h3,h4⟩:=hr (n,.ob (.val v) (ZC e sz R l)) XA
  obtain ⟨ad,cap,e1,h5,h6,h7⟩:=ZM h2
  simp only [Anc.v] at e1
  have e2:=(hy act w _ hp.right).1
  have e3:act.eval x = .slice ad l.length cap:=WJ
  have hh:(Instr.sliceBounds true l.length cap none (some (.int k j)) none).run P w = .ok (0,j.toNat,cap) w:=by
   have:j≤cap:=ow
   simp [Instr.sliceBounds,Instr.sliceBound,asIntOf,h0,this]
  have hv:(if cap=0 then ad else ad.map (·.add (0*sz)))=ad:=by
   split
   ·rfl
   ·cases ad <;> simp [Addr.add]
  refine ⟨.slice ad j.toNat cap,?_,fun τ _=>⟨by rw [e1];rfl,rfl⟩⟩
  simp only [execOp,e3,e2,Yar,Yai,Instr.sliceAt,YD,Yk he.1,Yq,Instr.slice,hh,run_sizeOf he.2,YN,hv,Ybq]
theorem Zd4 {k:IntKind} {j:Int} (n:Nat) (he:ZaM P t e sz) (hx:Zal x ps (.val v)) (hy:Opd y qs (.pv (.int k j))) (h0:0≤j) (h1:j≤l.length) (hl:0<l.length) :
  OpC P ⟨d,.slice t x (some y) none none,ty,pos,af,g⟩ ⟨ps++qs,[(n,.ob (.val v) (ZC e sz R l))],.pv (.is (Zpl sz j.toNat v)),[]⟩:=
 OpC.read fun act w F hp hr=>by
  obtain ⟨xs,h2,h3,h4⟩:=hr (n,.ob (.val v) (ZC e sz R l)) XA
  obtain ⟨ad,cap,e1,h5,h6,h7⟩:=ZM h2
  simp only [Anc.v] at e1
  have e2:=(hy act w _ hp.right).1
  have e3:act.eval x = .slice ad l.length cap:=WJ
  rcases h7 with h7 | ⟨b,rfl,_,_⟩
  ·omega
  ·subst e1
   have hh:(Instr.sliceBounds true l.length cap (some (.int k j)) none none).run P w = .ok (j.toNat,l.length,cap) w:=by
    have:j≤l.length:=h1
    simp [Instr.sliceBounds,Instr.sliceBound,asIntOf,h0,this]
   refine ⟨Zpl sz j.toNat (.slice (some ⟨b,0,none⟩) l.length cap),?_,fun τ _=>⟨rfl,rfl⟩⟩
   have had:(⟨b,0,none⟩:Addr).add (j.toNat*sz) = ⟨b,0+j.toNat*sz,none⟩:=by
    unfold Addr.add
    split
    ·rename_i h;simp [h]
    ·rfl
   have hcc:(cap=j.toNat)=(cap - j.toNat=0):=by
    apply propext;constructor <;> intro h <;> omega
   simp only [execOp,e3,e2,Yar,Yai,Instr.sliceAt,YD,Yk he.1,Yq,Instr.slice,hh,run_sizeOf he.2,YN,Zpl,had,hcc]
   split <;> rfl
theorem ZgY {k:IntKind} {j:Int} (n:Nat) (he:ZaM P t e sz) (hx:Zal x ps (.val v)) (hy:Opd y qs (.pv (.int k j))) (h0:0≤j) (h1:j≤l.length) :
  OpC P ⟨d,.slice t x (some y) none none,ty,pos,af,g⟩ ⟨ps++qs,[(n,.ob (.val v) (ZC e sz R l))],.pv .any,[]⟩:=
 OpC.read fun act w F hp hr=>by
  obtain ⟨xs,h2,h3,h4⟩:=hr (n,.ob (.val v) (ZC e sz R l)) XA
  obtain ⟨ad,cap,e1,h5,h6,h7⟩:=ZM h2
  simp only [Anc.v] at e1
  have e2:=(hy act w _ hp.right).1
  have e3:act.eval x = .slice ad l.length cap:=WJ
  have hh:(Instr.sliceBounds true l.length cap (some (.int k j)) none none).run P w = .ok (j.toNat,l.length,cap) w:=by
   have:j≤l.length:=h1
   simp [Instr.sliceBounds,Instr.sliceBound,asIntOf,h0,this]
  refine ⟨.slice (if cap=j.toNat then ad else ad.map (·.add (j.toNat*sz))) (l.length - j.toNat) (cap - j.toNat),?_,fun τ _=>trivial⟩
  simp only [execOp,e3,e2,Yar,Yai,Instr.sliceAt,YD,Yk he.1,Yq,Instr.slice,hh,run_sizeOf he.2,YN]
theorem ZiL {k1 k2 k3:IntKind} {i j m:Int} {u:Operand} {us:List (Nat×SF)} (n:Nat) (he:ZaM P t e sz) (hx:Zal x ps (.val v)) (hy:Opd y qs (.pv (.int k1 i))) (hz:Opd z rs (.pv (.int k2 j))) (hu:Opd u us (.pv (.int k3 m))) (h0:0≤i) (h1:i≤j) (h2:j≤m) (h3:m≤l.length) :
  OpC P ⟨d,.slice t x (some y) (some z) (some u),ty,pos,af,g⟩ ⟨ps++(qs++(rs++us)),[(n,.ob (.val v) (ZC e sz R l))],.pv .any,[]⟩:=
 OpC.read fun act w F hp hr=>by
  obtain ⟨xs,g2,g3,g4⟩:=hr (n,.ob (.val v) (ZC e sz R l)) XA
  obtain ⟨ad,cap,e1,h5,h6,h7⟩:=ZM g2
  simp only [Anc.v] at e1
  have e2:=(hy act w _ hp.right.left).1
  have e4:=(hz act w _ hp.right.right.left).1
  have e5:=(hu act w _ hp.right.right.right).1
  have e3:act.eval x = .slice ad l.length cap:=WJ
  have hh:(Instr.sliceBounds true l.length cap (some (.int k1 i)) (some (.int k2 j)) (some (.int k3 m))).run P w = .ok (i.toNat,j.toNat,m.toNat) w:=by
   have a1:0≤m:=ow
   have a2:m≤cap:=ow
   have a3:0≤j:=ow
   have a4:(m.toNat:Int)=m:=Int.toNat_of_nonneg a1
   have a5:(j.toNat:Int)=j:=Int.toNat_of_nonneg a3
   simp [Instr.sliceBounds,Instr.sliceBound,asIntOf,h0,a1,a2,a3,a4,a5,h1,h2]
  refine ⟨.slice (if m.toNat=i.toNat then ad else ad.map (·.add (i.toNat*sz))) (j.toNat - i.toNat) (m.toNat - i.toNat),?_,fun τ _=>trivial⟩
  simp only [execOp,e3,e2,e4,e5,Yar,Yai,Instr.sliceAt,YD,Yk he.1,Yq,Instr.slice,hh,run_sizeOf he.2,YN]
theorem Zpx {w:World} {b off:Nat} {vs:List Value} (hc:Zz w b off vs):∀ j v,vs[j]? = some v→w.cell? ((⟨b,off,none⟩:Addr).add j)=some v:=fun j v hj=>by rw [add_lit];exact Zz.get hc j v hj
theorem o_copy_sub {s:List α} {k d':Nat} {t2:TypeId} (n:Nat) (hu:P.underlying t=some (.slice e)) (hs:(P.info? e).map (·.size)=some sz) (hR:∀ x,(R x).length=sz) (hx:Opd x ps (.pv (.is (ZkT sz k v)))) (hy:Opd y qs (.pv (.sl R s))) (hs0:s≠[]) (hk:k+s.length≤l.length) :
  OpC P ⟨some d',.call { callee:=.builtin .copy,args:=#[x,y],argTypes:=#[t,t2] },ty,pos,af,g⟩ ⟨ps++qs,[(n,.ob (.val v) (ZC e sz R l))],.pv .any,[(n,.ob (.val v) (ZC e sz R (l.take k++s++l.drop (k+s.length))))]⟩:=fun act w F K Q hw hp hr ht=>by
 obtain ⟨xs,r1,r2,r3⟩:=hr (n,.ob (.val v) (ZC e sz R l)) XA
 simp only [Anc.v] at r1 r3
 have hxl:=r1.1
 have hsl0:0<s.length:=List.length_pos_iff.2 hs0
 rcases r1.2 with ⟨_,hn0⟩ | ⟨b,cap,cur,ev,_,hg,hnc,hcm,hcs,htake⟩
 ·omega
 ·have ex:act.eval x = .slice (some ⟨b,0+k*sz,none⟩) (l.length - k) (cap - k):=WT
  obtain ⟨sa,sc,es,hsc,hscm,hsv⟩:=hy act w (U F) hp.right
  obtain ⟨sb,soff,svs,rfl,hny,hsb,hcells,hpv⟩:=hsv.resolve_left hs0
  have hcl:svs.length=s.length*sz:=by rw [← hpv.len,Zk1 hR]
  have hcur:cur.toList.length=cur.size:=XA
  have hfit:k*sz+s.length*sz≤l.length*sz:=by rw [← Ya0];exact YE _ hk
  have hfit2:l.length*sz≤cur.size:=Ka
  have hf:∀ z,F n z ↔ z=b:=fun z=>by rw [r3 z,ev];simp [Value.ownBlock,Yak]
  have hc:=Zfn (P:=P) (w:=w) (dT:=t) (sT:=t2) (ty:=ty) (g:=b) (o:=0+k*sz) (dLen:=l.length - k) (dCap:=cap - k) (n:=s.length) (a:=⟨sb,soff,none⟩) (sLen:=s.length) (sCap:=sc) hu hs hg (by show min s.length (l.length - k)=_;omega) hcl (Zpx hcells) (by rw [hcl];omega) hpv.one
  rw [Y2] at hc ex
  have hrun:(execOp act.eval ⟨some d',.call { callee:=.builtin .copy,args:=#[x,y],argTypes:=#[t,t2] },ty,pos,af,g⟩).run P w = .ok (.value (goInt s.length)) (w.setRow b (cur.toList.take (k*sz)++svs++cur.toList.drop (k*sz+svs.length)).toArray):=by
   simp only [execOp,resolve,invoke,builtin,ex,es]
   simp [hc,resolve,invoke,builtin,ex,es]
  obtain ⟨g1,g2⟩:=ZaD hw hg hf (cur.toList.take (k*sz)++svs++cur.toList.drop (k*sz+svs.length)).toArray
  simp only [Oper.wp,hrun,Oper.upon]
  refine ht _ _ F g1 g2 trivial ?_
  intro z' hz'
  simp only [Yn] at hz'
  subst hz'
  have hll:(l.take k++s++l.drop (k+s.length)).length=l.length:=XG
  have htk:=ZgJ (cur:=cur.toList) (us:=svs) (k:=k*sz) (sz:=s.length*sz) (N:=l.length*sz) hfit hcl (by rw [hcur];exact hfit2)
  rw [htake] at htk
  have hown:=Ze6 (n:=l.length) (sz:=sz) (us:=cur.toList.take (k*sz)++svs++cur.toList.drop (k*sz+svs.length)) hg (by simp only [Yd,Yj,Yu,hcur,hcl];omega) hnc hcm
  rw [htk] at hown
  refine ⟨xs.take (k*sz)++svs++xs.drop (k*sz+s.length*sz),by rw [hll];simp only [Anc.v];rw [ev];exact hown,?_,r3⟩
  rw [Yae,Yae,ZcT hR,ZgP hR,Ya0]
  have hp1:=PVs.mono g2.ev r2
  exact ((hp1.take _).append (PVs.mono g2.ev hpv)).append (hp1.drop _)
def ZnX {α:Type} (T sz:Nat) (R:α→List PV) (l:List α) (v:Value):HP:=
 ⟨fun w f y=>∃ xs ys,w.ownsRow 0 T sz v (l.length+1) (xs++ys)∧xs.length=l.length*sz∧PVs (l.flatMap R) xs w y ∧ ∀ b,f b ↔ v.ownBlock=some b,
  fun {w f y w' y'} h hf ⟨xs,ys,h1,h2,h3,h4⟩=>⟨xs,ys,Zed h1 (fun b hb=>hf b ((h4 b).2 hb)),h2,PVs.mono h h3,h4⟩⟩
theorem ZfZ {d':Nat} {k:IntKind} {j:Int} (n:Nat) (he:ZaM P t e sz) (hx:Zal x ps (.val v)) (hy:Opd y qs (.pv (.int k j))) (h1:j=l.length+1) (h2:l.length+1≤capV v) :
  OpC P ⟨some d',.slice t x none (some y) none,ty,pos,af,g⟩ ⟨ps++qs,[(n,.ob (.val v) (ZC e sz R l))],.same d',[(n,.ob (.slot d') (ZnX e sz R l))]⟩:=fun act w F K Q hw hp hr ht=>by
 obtain ⟨xs,r1,r2,r3⟩:=hr (n,.ob (.val v) (ZC e sz R l)) XA
 simp only [Anc.v] at r1 r3
 have hxl:=r1.1
 rcases r1.2 with ⟨hv0,hn0⟩ | ⟨b,cap,cur,ev,_,hg,hnc,hcm,hcs,htake⟩
 ·rw [hv0] at h2;simp [capV] at h2
 ·have hcv:capV v=cap:=by rw [ev];rfl
  have e2:=(hy act w _ hp.right).1
  have e3:act.eval x = .slice (some ⟨b,0,none⟩) l.length cap:=by rw [hx act w _ hp.left];exact ev
  have hh:(Instr.sliceBounds true l.length cap none (some (.int k j)) none).run P w = .ok (0,l.length+1,cap) w:=by
   have a1:0≤j:=ow
   have a2:j≤cap:=ow
   have a3:j.toNat=l.length+1:=ow
   simp [Instr.sliceBounds,Instr.sliceBound,asIntOf,a1,a2,a3]
  have hv:(if cap=0 then some (⟨b,0,none⟩:Addr) else some ((⟨b,0,none⟩:Addr).add (0*sz)))=some ⟨b,0,none⟩:=by
   split
   ·rfl
   ·simp [Addr.add]
  have hrun:(execOp act.eval ⟨some d',.slice t x none (some y) none,ty,pos,af,g⟩).run P w = .ok (.value (.slice (some ⟨b,0,none⟩) (l.length+1) cap)) w:=by
   simp only [execOp,e3,e2,Yar,Yai,Instr.sliceAt,YD,Yk he.1,Yq,Instr.slice,hh,run_sizeOf he.2,YN,hv,Ybq]
  simp only [Oper.wp,hrun,Oper.upon]
  refine ht _ w F hw ⟨rfl,rfl,rfl,YP _,fun _ _ _=>rfl,fun _ _=>rfl,fun m hm c hc=>.inl ⟨m,hm,hc⟩⟩ ⟨by simp [upd],rfl⟩ ?_
  intro z' hz'
  simp only [Yn] at hz'
  subst hz'
  have hτ:upd (Act.tau act) (some d') (.slice (some ⟨b,0,none⟩) (l.length+1) cap) d' = .slice (some ⟨b,0,none⟩) (l.length+1) cap:=by simp [upd]
  have hcur:cur.toList.length=cur.size:=XA
  have hle:(l.length+1)*sz≤cur.size:=by rw [hcs];exact YE _ ow
  have hml:(l.length+1)*sz=l.length*sz+sz:=Ya7 _ _
  refine ⟨xs,(cur.toList.drop (l.length*sz)).take sz,?_,hxl,r2,fun c=>by simp only [Anc.v,hτ];rw [r3,ev];rfl⟩
  simp only [Anc.v,hτ]
  have hsplit:cur.toList.take ((l.length+1)*sz)=xs++(cur.toList.drop (l.length*sz)).take sz:=by
   rw [hml,List.take_add,htake]
  refine ⟨by rw [Yd,hxl,Yj,Yu,hcur];omega,.inr ⟨b,cap,cur,rfl,Yp _,hg,ow,hcm,hcs,hsplit⟩⟩
theorem Za8 {k:IntKind} {j:Int} (n:Nat) (he:ZaM P t e sz) (hx:Zal x ps (.val v)) (hy:Opd y qs (.pv (.int k j))) (h0:0≤j) (h1:j≤l.length) :
  OpC P ⟨d,.slice t x (some y) none none,ty,pos,af,g⟩ ⟨ps++qs,[(n,.ob (.val v) (ZnX e sz R l))],.pv (.is (ZkT sz j.toNat v)),[]⟩:=
 OpC.read fun act w F hp hr=>by
  obtain ⟨xs,ys,h2,h3,h4,h8⟩:=hr (n,.ob (.val v) (ZnX e sz R l)) XA
  obtain ⟨ad,cap,e1,h5,h6,h7⟩:=ZM h2
  simp only [Anc.v] at e1
  have e2:=(hy act w _ hp.right).1
  have e3:act.eval x = .slice ad (l.length+1) cap:=WJ
  rcases h7 with h7 | ⟨b,rfl,_,_⟩
  ·omega
  ·subst e1
   have hh:(Instr.sliceBounds true (l.length+1) cap (some (.int k j)) none none).run P w = .ok (j.toNat,l.length+1,cap) w:=by
    have:j≤((l.length+1:Nat):Int):=ow
    simp only [Instr.sliceBounds,Instr.sliceBound,asIntOf,h0]
    simp [h0]
    intro h9;omega
   have hne2:¬ cap=j.toNat:=ow
   have had:(⟨b,0,none⟩:Addr).add (j.toNat*sz) = ⟨b,0+j.toNat*sz,none⟩:=by
    unfold Addr.add
    split
    ·rename_i h;simp [h]
    ·rfl
   refine ⟨ZkT sz j.toNat (.slice (some ⟨b,0,none⟩) (l.length+1) cap),?_,fun τ _=>⟨rfl,rfl⟩⟩
   simp only [execOp,e3,e2,Yar,Yai,Instr.sliceAt,YD,Yk he.1,Yq,Instr.slice,hh,run_sizeOf he.2,YN,ZkT,had,Yb hne2]
theorem ZjK {w:World} {b off:Nat} {u:Value} (h:w.cell? ⟨b,off,none⟩ = some u):∃ cs T m,w.heap[b]? = some (.cells cs T m)∧0<cs.size:=by
 unfold World.cell? at h
 split at h
 ·rename_i cs T m hb
  refine ⟨cs,T,m,hb,?_⟩
  cases hz:cs.size with
  | zero=>simp [Array.size_eq_zero_iff.1 hz] at h
  | succ n=>omega
 ·cases h
theorem ZfW {s : List α} {k : Nat} {t2 : TypeId} {f : FuncId} {fn : Func} {tys : Array TypeId} (n : Nat) (hf : P.funcs[f]? = some fn) (hname : (fn.name == "runtime.NumGoroutine") = false) (hb : fn.body.isNone = true) (hn : Extern.findNext fn = none) (he : Extern.find fn = some (Extern.SlicesOverlaps.overlaps #[t, t] #[t2])) (hu : P.underlying t = some (.slice e)) (hs : (P.info? e).map (·.size) = some sz) (hR : ∀ x, (R x).length = sz)
    (hx:Opd x ps (.pv (.sl R s))) (hy:Opd y qs (.pv (.is (ZkT sz k v)))) (hk:k≤l.length) :
    OpC P ⟨d,.call { callee:=.value (.func f),args:=#[x,y],argTypes:=tys },ty,pos,af,g⟩ ⟨ps++qs,[(n,.ob (.val v) (ZnX e sz R l))],.pv (.bool false),[]⟩:=
  OpC.read fun act w F hp hr=>by
    obtain ⟨xs,ys,r1,r2,r3,r4⟩:=hr (n,.ob (.val v) (ZnX e sz R l)) XA
    simp only [Anc.v] at r1 r4
    obtain ⟨sa,sc,es,hsc,hscm,hsv⟩:=hx act w (U F) hp.left
    rcases r1.2 with ⟨_,hn0⟩ | ⟨b,cap,cur,ev,_,hg,hnc,hcm,hcs,htake⟩
    · omega
    · have ey:act.eval y = .slice (some ⟨b,0+k*sz,none⟩) (l.length+1 - k) (cap - k):=by rw [(hy act w (U F) hp.right).1,ev];rfl
      have hc:=run_callFunc_extern (P:=P) hf hname hb hn he #[.slice sa s.length sc,.slice (some ⟨b,0+k*sz,none⟩) (l.length+1 - k) (cap - k)] w
      have e2:act.eval (.func f) = .func (.func f) #[] #[]:=rfl
      have hres:(Extern.SlicesOverlaps.overlaps #[t,t] #[t2] #[.slice sa s.length sc,.slice (some ⟨b,0+k*sz,none⟩) (l.length+1 - k) (cap - k)]).run P w = .ok (.bool false) w:=by
        by_cases h0:s.length=0∨l.length+1 - k=0∨sz=0
        · cases sa with
          | none=>
            change Sem.run P (α:=Value) (do
              let some t := (#[t, t] : Array TypeId)[0]? | stuck "slices.overlaps: no parameter types"
              let .slice elem ← underlying t | stuck "slices.overlaps: slice type expected"
              let size ← sizeOf elem
              match (none:Option Addr),(some ⟨b,0+k*sz,none⟩:Option Addr) with
              | some a,some b=>
                if s.length=0∨l.length+1 - k=0∨size=0 then pure (Value.bool false)
                else if a.block != b.block && (← frozen a) && (← frozen b) then unsupported .addressObserved
                else do
                  if a.block != b.block then do
                    noView a;noView b
                    if ← mayBeOne a b then return Value.bool ((← choose (.extern "sameAddr.stringBytes" 2)) == 1)
                  pure (Value.bool (a.block == b.block && a.off<b.off+(l.length+1 - k)*size && b.off<a.off+s.length*size))
              | _,_=>pure (Value.bool false)) w=_
            simp [Yk hu,run_sizeOf hs]
          | some sa=>
            change Sem.run P (α:=Value) (do
              let some t := (#[t, t] : Array TypeId)[0]? | stuck "slices.overlaps: no parameter types"
              let .slice elem ← underlying t | stuck "slices.overlaps: slice type expected"
              let size ← sizeOf elem
              match (some sa:Option Addr),(some ⟨b,0+k*sz,none⟩:Option Addr) with
              | some a,some b=>
                if s.length=0∨l.length+1 - k=0∨size=0 then pure (Value.bool false)
                else if a.block != b.block && (← frozen a) && (← frozen b) then unsupported .addressObserved
                else do
                  if a.block != b.block then do
                    noView a;noView b
                    if ← mayBeOne a b then return Value.bool ((← choose (.extern "sameAddr.stringBytes" 2)) == 1)
                  pure (Value.bool (a.block == b.block && a.off<b.off+(l.length+1 - k)*size && b.off<a.off+s.length*size))
              | _,_=>pure (Value.bool false)) w=_
            have h0':s = []∨l.length+1 - k=0∨sz=0:=h0.imp Y6 id
            simp [Yk hu,run_sizeOf hs,h0']
        · have hs0:s≠[]:=fun e=>h0 (.inl (by rw [e];rfl))
          obtain ⟨sb,soff,svs,rfl,hny,hsb,hcells,hpv⟩:=hsv.resolve_left hs0
          have hbb:F n b:=(r4 b).2 (by rw [ev];rfl)
          have hne:sb≠b:=fun e=>hny ⟨n,by rw [e];exact hbb⟩
          have hsl:svs.length=s.length*sz:=by rw [← hpv.len,Zk1 hR]
          have hpos:0<svs.length:=by rw [hsl];exact Nat.mul_pos ow ow
          obtain ⟨u,svs',rfl⟩:∃ u svs',svs=u :: svs':=by
            cases svs with
            | nil=>simp at hpos
            | cons u svs'=>exact ⟨u,svs',rfl⟩
          obtain ⟨cs,T',m',hsbk,hcs0⟩:=ZjK hcells.1
          obtain ⟨cn,hcn⟩:∃ cn,cs.size=cn+1:=⟨cs.size - 1,ow⟩
          have hnb:(sb != b)=true:=XK
          have hnb':(sb == b)=false:=XK
          have hsa:w.shape? sb=some (T',cn+1):=by simp [World.shape?,hsbk,hcn]
          have hsh:w.shape? b=some (e,cur.size):=by simp [World.shape?,hg]
          have hfb:∀ o,w.frozen? ⟨b,o,none⟩ = false:=fun o=>by simp [World.frozen?,hg]
          have hlb:¬ l.length+1 - k=0:=fun e=>h0 (.inr (.inl e))
          have hszb:¬ sz=0:=fun e=>h0 (.inr (.inr e))
          have hslb:¬ s.length=0:=fun e=>h0 (.inl e)
          change Sem.run P (α:=Value) (do
            let some t := (#[t, t] : Array TypeId)[0]? | stuck "slices.overlaps: no parameter types"
            let .slice elem ← underlying t | stuck "slices.overlaps: slice type expected"
            let size ← sizeOf elem
            match (some ⟨sb,soff,none⟩:Option Addr),(some ⟨b,0+k*sz,none⟩:Option Addr) with
            | some a,some b=>
              if s.length=0∨l.length+1 - k=0∨size=0 then pure (Value.bool false)
              else if a.block != b.block && (← frozen a) && (← frozen b) then unsupported .addressObserved
              else do
                if a.block != b.block then do
                  noView a;noView b
                  if ← mayBeOne a b then return Value.bool ((← choose (.extern "sameAddr.stringBytes" 2)) == 1)
                pure (Value.bool (a.block == b.block && a.off<b.off+(l.length+1 - k)*size && b.off<a.off+s.length*size))
            | _,_=>pure (Value.bool false)) w=_
          cases hfa:w.frozen? ⟨sb,soff,none⟩ <;> cases hfe:w.frozen? ⟨sb,cn+1,none⟩ <;>
            simp [Yk hu,run_sizeOf hs,hs0,hlb,hszb,hslb,hnb,hnb',frozen,noView,viewAt,mayBeOne,stringish,shape,Sem.run,hsa,hsh,hfa,hfe,hfb]
      refine ⟨.bool false,?_,fun _ _=>rfl⟩
      rw [hres] at hc
      simpa [execOp,resolve,es,ey,e2,Deferred.ofValue,invoke] using hc
theorem Zeb {k k1 k0 d':Nat} {t2:TypeId} (n:Nat) (hu:P.underlying t=some (.slice e)) (hs:(P.info? e).map (·.size)=some sz) (hR:∀ x,(R x).length=sz) (hx:Opd x ps (.pv (.is (ZkT sz k1 v)))) (hy:Opd y qs (.pv (.is (ZkT sz k0 v)))) (h1':k1=k+1) (h0':k0=k) (hk:k<l.length) :
  OpC P ⟨some d',.call { callee:=.builtin .copy,args:=#[x,y],argTypes:=#[t,t2] },ty,pos,af,g⟩ ⟨ps++qs,[(n,.ob (.val v) (ZnX e sz R l))],.pv .any,[(n,.ob (.val v) (ZC e sz R (l.take (k+1)++l.drop k)))]⟩:=fun act w F K Q hw hp hr ht=>by
 subst h1';subst k0
 obtain ⟨xs,ys,r1,r2,r3,r4⟩:=hr (n,.ob (.val v) (ZnX e sz R l)) XA
 simp only [Anc.v] at r1 r4
 have hxl:=r1.1
 rcases r1.2 with ⟨_,hn0⟩ | ⟨b,cap,cur,ev,_,hg,hnc,hcm,hcs,htake⟩
 ·omega
 ·have ex:act.eval x = .slice (some ⟨b,0+(k+1)*sz,none⟩) (l.length+1 - (k+1)) (cap - (k+1)):=WT
  have ey:act.eval y = .slice (some ⟨b,0+k*sz,none⟩) (l.length+1 - k) (cap - k):=by rw [(hy act w (U F) hp.right).1,ev];rfl
  rw [Y2] at ex ey
  have hcur:cur.toList.length=cur.size:=XA
  have hml:(l.length+1)*sz=l.length*sz+sz:=Ya7 _ _
  have hfitN:(l.length+1)*sz≤cur.size:=Ka
  have htx:cur.toList.take (l.length*sz)=xs:=by
   have:cur.toList.take (l.length*sz)=(cur.toList.take ((l.length+1)*sz)).take (l.length*sz):=by rw [Yay,YaQ ow]
   rw [this,htake,YR ow,Y1 ow]
  have hkl:k*sz≤l.length*sz:=YE _ ow
  have hk1:(k+1)*sz=k*sz+sz:=Ya7 _ _
  have hk1l:(k+1)*sz≤l.length*sz:=YE _ hk
  have hsub:(l.length - k)*sz=l.length*sz - k*sz:=Nat.sub_mul _ _ _
  have hcl:(xs.drop (k*sz)).length=(l.length - k)*sz:=by rw [Yu,r2,hsub]
  have hf:∀ z,F n z ↔ z=b:=fun z=>by rw [r4 z,ev];simp [Value.ownBlock,Yak]
  have hsrc:∀ j u,(xs.drop (k*sz))[j]? = some u→w.cell? ((⟨b,k*sz,none⟩:Addr).add j)=some u:=fun j u hj=>by
   rw [List.getElem?_drop,← htx,YaS] at hj
   split at hj
   ·rw [add_lit]
    simp only [World.cell?,hg]
    simpa using hj
   ·cases hj
  have hone:∀ u ∈ xs.drop (k*sz),u.oneCell' = true:=fun u hu=>r3.one u (YaG hu)
  have hc:=Zfn (P:=P) (w:=w) (dT:=t) (sT:=t2) (ty:=ty) (g:=b) (o:=(k+1)*sz) (dLen:=l.length+1 - (k+1)) (dCap:=cap - (k+1)) (n:=l.length - k) (a:=⟨b,k*sz,none⟩) (sLen:=l.length+1 - k) (sCap:=cap - k) hu hs hg (by show min (l.length+1 - k) (l.length+1 - (k+1))=_;omega) hcl hsrc (by rw [hcl];omega) hone
  have hrun:(execOp act.eval ⟨some d',.call { callee:=.builtin .copy,args:=#[x,y],argTypes:=#[t,t2] },ty,pos,af,g⟩).run P w = .ok (.value (goInt (l.length - k:Nat))) (w.setRow b (cur.toList.take ((k+1)*sz)++xs.drop (k*sz)++cur.toList.drop ((k+1)*sz+(xs.drop (k*sz)).length)).toArray):=by
   simp only [execOp,resolve,invoke,builtin,YD,YN,Yq,List.map_toArray,YJ,List.map_nil,ex,ey,hc]
  obtain ⟨g1,g2⟩:=ZaD hw hg hf (cur.toList.take ((k+1)*sz)++xs.drop (k*sz)++cur.toList.drop ((k+1)*sz+(xs.drop (k*sz)).length)).toArray
  simp only [Oper.wp,hrun,Oper.upon]
  refine ht _ _ F g1 g2 trivial ?_
  intro z' hz'
  simp only [Yn] at hz'
  subst hz'
  have hll:(l.take (k+1)++l.drop k).length=l.length+1:=XG
  have hown:=Ze6 (n:=l.length+1) (sz:=sz) (us:=cur.toList.take ((k+1)*sz)++xs.drop (k*sz)++cur.toList.drop ((k+1)*sz+(xs.drop (k*sz)).length)) hg (by simp only [Yd,Yj,Yu,hcur,r2];omega) hnc hcm
  have htk:(cur.toList.take ((k+1)*sz)++xs.drop (k*sz)++cur.toList.drop ((k+1)*sz+(xs.drop (k*sz)).length)).take ((l.length+1)*sz)=xs.take ((k+1)*sz)++xs.drop (k*sz):=by
   have e1:cur.toList.take ((k+1)*sz)=xs.take ((k+1)*sz):=by rw [← htx,Yay,YaQ hk1l]
   rw [e1,YR (by simp only [Yd,Yj,Yu,r2];omega),Y1 (by simp only [Yd,Yj,Yu,r2];omega)]
  rw [htk] at hown
  refine ⟨xs.take ((k+1)*sz)++xs.drop (k*sz),by rw [hll];simp only [Anc.v];rw [ev];exact hown,?_,r4⟩
  rw [Yae,ZcT hR,ZgP hR]
  have hp1:=PVs.mono g2.ev r3
  exact (hp1.take _).append (hp1.drop _)
theorem Zdw {i j d':Nat} (n:Nat) (hu:P.underlying t=some (.slice e)) (hi:(P.info? e).map (·.size)=some sz) (hR:∀ x,(R x).length=sz) (hx:Opd x ps (.pv (.is (Zfu i v)))) (hy:Opd y qs (.pv (.is (Zpl sz j v)))) (h1:i≤j) (h2:j≤l.length) (h3:0<l.length) :
  OpC P ⟨some d',.call { callee:=.builtin .append,args:=#[x,y],argTypes:=#[t,t] },ty,pos,af,g⟩ ⟨ps++qs,[(n,.ob (.val v) (ZC e sz R l))],.pv (.is (Zfu (i+(l.length - j)) v)),[(n,.ob (.val (Zfu (i+(l.length - j)) v)) (ZC e sz R (l.take i++l.drop j)))]⟩:=fun act w F K Q hw hp hr ht=>by
 obtain ⟨xs,r1,r2,r3⟩:=hr (n,.ob (.val v) (ZC e sz R l)) XA
 simp only [Anc.v] at r1 r3
 have hxl:=r1.1
 rcases r1.2 with ⟨_,hn0⟩ | ⟨b,cap,cur,ev,_,hg,hnc,hcm,hcs,htake⟩
 ·omega
 ·obtain ⟨ti,hti,hts⟩:=Yac.1 hi
  have ex:act.eval x = .slice (some ⟨b,0,none⟩) i cap:=WT
  obtain ⟨o,ho,ey⟩:∃ o:Nat,(o=j*sz∨l.length - j=0)∧act.eval y = .slice (some ⟨b,o,none⟩) (l.length - j) (cap - j):=by
   refine ⟨if cap - j=0 then 0 else 0+j*sz,?_,by rw [(hy act w (U F) hp.right).1,ev];simp only [Zpl];split <;> rfl⟩
   split
   ·right;omega
   ·left;omega
  have hcur:cur.toList.length=cur.size:=XA
  have hjl:j*sz≤l.length*sz:=YE _ h2
  have hij:i*sz≤j*sz:=YE _ h1
  have hsub:(l.length - j)*sz=l.length*sz - j*sz:=Nat.sub_mul _ _ _
  have hcl:(xs.drop (j*sz)).length=(l.length - j)*sz:=by rw [Yu,hxl,hsub]
  have hfitN:l.length*sz≤cur.size:=Ka
  have hsrc:∀ q u,(xs.drop (j*sz))[q]? = some u→w.cell? ((⟨b,o,none⟩:Addr).add q)=some u:=fun q u hq=>by
   rcases ho with ho | ho
   ·rw [List.getElem?_drop,← htake,YaS] at hq
    split at hq
    ·rw [add_lit,ho]
     simp only [World.cell?,hg]
     simpa using hq
    ·cases hq
   ·have:(xs.drop (j*sz)).length=0:=by rw [hcl,ho,Nat.zero_mul]
    have h9:=(YB.1 hq).1
    omega
  have hone:∀ u ∈ xs.drop (j*sz),u.oneCell' = true:=fun u hu=>r2.one u (YaG hu)
  subst hts
  have hc:=run_append_room (P:=P) w t ty e ti hu hti b i cap cur hg ⟨b,o,none⟩ (l.length - j) (cap - j) (xs.drop (j*ti.size)) hcl hsrc hone ow (by rw [hcl];omega)
  have hf:∀ z,F n z ↔ z=b:=fun z=>by rw [r3 z,ev];simp [Value.ownBlock,Yak]
  have hrun:(execOp act.eval ⟨some d',.call { callee:=.builtin .append,args:=#[x,y],argTypes:=#[t,t] },ty,pos,af,g⟩).run P w = .ok (.value (.slice (some ⟨b,0,none⟩) (i+(l.length - j)) cap)) (w.setRow b (cur.toList.take (i*ti.size)++xs.drop (j*ti.size)++cur.toList.drop (i*ti.size+(xs.drop (j*ti.size)).length)).toArray):=by
   simp only [execOp,resolve,invoke,builtin,ex,ey,YD,YN,Yq,List.map_toArray,YJ,List.map_nil,hc]
  obtain ⟨g1,g2⟩:=ZaD hw hg hf (cur.toList.take (i*ti.size)++xs.drop (j*ti.size)++cur.toList.drop (i*ti.size+(xs.drop (j*ti.size)).length)).toArray
  simp only [Oper.wp,hrun,Oper.upon]
  have hhv:Zfu (i+(l.length - j)) v = .slice (some ⟨b,0,none⟩) (i+(l.length - j)) cap:=by rw [ev];rfl
  refine ht _ _ F g1 g2 ⟨by rw [hhv],rfl⟩ ?_
  intro z' hz'
  simp only [Yn] at hz'
  subst hz'
  have hll:(l.take i++l.drop j).length=i+(l.length - j):=XG
  have hown:=Ze6 (n:=i+(l.length - j)) (sz:=ti.size) (us:=cur.toList.take (i*ti.size)++xs.drop (j*ti.size)++cur.toList.drop (i*ti.size+(xs.drop (j*ti.size)).length)) hg (by simp only [Yd,Yj,Yu,hcur,hxl];omega) ow hcm
  have hmm:(i+(l.length - j))*ti.size=i*ti.size+(l.length*ti.size - j*ti.size):=by rw [Ya0,hsub]
  have htk:(cur.toList.take (i*ti.size)++xs.drop (j*ti.size)++cur.toList.drop (i*ti.size+(xs.drop (j*ti.size)).length)).take ((i+(l.length - j))*ti.size)=xs.take (i*ti.size)++xs.drop (j*ti.size):=by
   have e1:cur.toList.take (i*ti.size)=xs.take (i*ti.size):=by rw [← htake,Yay,YaQ ow]
   rw [e1,YR (by simp only [Yd,Yj,Yu,hxl];omega),Y1 (by simp only [Yd,Yj,Yu,hxl];omega)]
  rw [htk] at hown
  refine ⟨xs.take (i*ti.size)++xs.drop (j*ti.size),by rw [hll];simp only [Anc.v];rw [hhv];exact hown,?_,fun c=>by simp only [Anc.v];rw [hhv,hf];simp [Value.ownBlock,Yak]⟩
  rw [Yae,ZcT hR,ZgP hR]
  have hp1:=PVs.mono g2.ev r2
  exact (hp1.take _).append (hp1.drop _)
theorem Zhf (i:Nat) (v:Value):capV (Zfu i v)=capV v:=by cases v <;> rfl
theorem ZkD {k1 k2:IntKind} {i j:Int} (n:Nat) (he:ZaM P t e sz) (hx:Zal x ps (.val v)) (hy:Opd y qs (.pv (.int k1 i))) (hz:Opd z rs (.pv (.int k2 j))) (h0:0≤i) (h1:i<j) (h2:j≤capV v) :
  OpC P ⟨d,.slice t x (some y) (some z) none,ty,pos,af,g⟩ ⟨ps++(qs++rs),[(n,.ob (.val v) (ZC e sz R l))],.pv (.is (ZmH sz i.toNat j.toNat v)),[]⟩:=
 OpC.read fun act w F hp hr=>by
  obtain ⟨xs,g2,g3,g4⟩:=hr (n,.ob (.val v) (ZC e sz R l)) XA
  simp only [Anc.v] at g2
  rcases g2.2 with ⟨hv0,hn0⟩ | ⟨b,cap,cur,ev,_,hg,hnc,hcm,hcs,htake⟩
  ·rw [hv0] at h2;simp [capV] at h2;omega
  ·have hcv:capV v=cap:=by rw [ev];rfl
   have e2:=(hy act w _ hp.right.left).1
   have e4:=(hz act w _ hp.right.right).1
   have e3:act.eval x = .slice (some ⟨b,0,none⟩) l.length cap:=by rw [hx act w _ hp.left];exact ev
   have hh:(Instr.sliceBounds true l.length cap (some (.int k1 i)) (some (.int k2 j)) none).run P w = .ok (i.toNat,j.toNat,cap) w:=by
    have a1:0≤j:=ow
    have a2:j≤cap:=ow
    have a3:(j.toNat:Int)=j:=Int.toNat_of_nonneg a1
    have a4:i≤j:=ow
    simp [Instr.sliceBounds,Instr.sliceBound,asIntOf,h0,a1,a2,a3,a4]
   have had:(⟨b,0,none⟩:Addr).add (i.toNat*sz) = ⟨b,0+i.toNat*sz,none⟩:=by
    unfold Addr.add
    split
    ·rename_i h;simp [h]
    ·rfl
   have hne:¬ cap=i.toNat:=ow
   refine ⟨ZmH sz i.toNat j.toNat v,?_,fun τ _=>⟨rfl,by rw [ev];rfl⟩⟩
   rw [ev]
   simp only [execOp,e3,e2,e4,Yar,Yai,Instr.sliceAt,YD,Yk he.1,Yq,Instr.slice,hh,run_sizeOf he.2,YN,ZmH,had,Yb hne]
theorem Zdx {zs:List Value} {m:Nat} (n:Nat) (hu:P.underlying t=some (.slice e)) (hzs:P.zeros e=some zs) (hzl:zs.length=sz) (hz1:∀ u ∈ (madeCells zs.toArray ((m - l.length)*sz)).toList,u.oneCell' = true) (hx:Opd x ps (.pv (.is (ZmH sz l.length m v)))) (h1:l.length<m) (h2:m≤capV v) :
  OpC P ⟨none,.call { callee:=.builtin .clear,args:=#[x],argTypes:=#[t] },ty,pos,af,g⟩ ⟨ps,[(n,.ob (.val v) (ZC e sz R l))],.pv .any,[(n,.ob (.val v) (ZC e sz R l))]⟩:=fun act w F K Q hw hp hr ht=>by
 obtain ⟨xs,r1,r2,r3⟩:=hr (n,.ob (.val v) (ZC e sz R l)) XA
 obtain ⟨zv,z1,z2,z3⟩:=ZbK hzs
 simp only [Anc.v] at r1 r3
 have hxl:=r1.1
 rcases r1.2 with ⟨hv0,hn0⟩ | ⟨b,cap,cur,ev,_,hg,hnc,hcm,hcs,htake⟩
 ·rw [hv0] at h2;simp [capV] at h2;omega
 ·have hcv:capV v=cap:=by rw [ev];rfl
  have ex:act.eval x = .slice (some ⟨b,0+l.length*sz,none⟩) (m - l.length) (cap - l.length):=by rw [(hx act w (U F) hp).1,ev];rfl
  rw [Y2] at ex
  obtain ⟨q,hq⟩:∃ q,m - l.length=q+1:=⟨m - l.length - 1,ow⟩
  have hmade:(Builtin.zeroCells zv.cells (m - l.length)).toList=(madeCells zs.toArray ((m - l.length)*sz)).toList:=by
   rw [z1];unfold Builtin.zeroCells madeCells;rw [Yam,hzl]
  have hml:(madeCells zs.toArray ((m - l.length)*sz)).toList.length=(m - l.length)*sz:=by simp [size_madeCells]
  have hcur:cur.toList.length=cur.size:=XA
  have hfit:l.length*sz+(m - l.length)*sz≤cur.size:=by rw [← Ya0,hcs];exact YE _ ow
  have hst:=Yab P b (l.length*sz) e (madeCells zs.toArray ((m - l.length)*sz)).toList 0 cur w hg (by rw [hml];omega) hz1
  have hrun:(execOp act.eval ⟨none,.call { callee:=.builtin .clear,args:=#[x],argTypes:=#[t] },ty,pos,af,g⟩).run P w = .ok (.value (.tuple #[])) (w.setRow b (cur.toList.take (l.length*sz)++(madeCells zs.toArray ((m - l.length)*sz)).toList++cur.toList.drop (l.length*sz+(madeCells zs.toArray ((m - l.length)*sz)).toList.length)).toArray):=by
   rw [YaX] at hst
   have hcl:(Builtin.clear_ #[t] ty #[.slice (some ⟨b,l.length*sz,none⟩) (m - l.length) (cap - l.length)]).run P w = .ok (.tuple #[]) (w.setRow b (cur.toList.take (l.length*sz)++(madeCells zs.toArray ((m - l.length)*sz)).toList++cur.toList.drop (l.length*sz+(madeCells zs.toArray ((m - l.length)*sz)).toList.length)).toArray):=by
    rw [← hmade] at hst ⊢
    rw [hq] at hst ⊢
    simp [Builtin.clear_,Yk hu,z3]
    simp at hst
    rw [hst]
    rfl
   simp only [execOp,resolve,invoke,builtin,ex]
   simp [hcl,resolve,invoke,builtin,ex]
  have hf:∀ z,F n z ↔ z=b:=fun z=>by rw [r3 z,ev];simp [Value.ownBlock,Yak]
  obtain ⟨g1,g2⟩:=ZaD hw hg hf (cur.toList.take (l.length*sz)++(madeCells zs.toArray ((m - l.length)*sz)).toList++cur.toList.drop (l.length*sz+(madeCells zs.toArray ((m - l.length)*sz)).toList.length)).toArray
  simp only [Oper.wp,hrun,Oper.upon]
  refine ht _ _ F g1 g2 trivial ?_
  intro z' hz'
  simp only [Yn] at hz'
  subst hz'
  have hown:=Ze6 (n:=l.length) (sz:=sz) (us:=cur.toList.take (l.length*sz)++(madeCells zs.toArray ((m - l.length)*sz)).toList++cur.toList.drop (l.length*sz+(madeCells zs.toArray ((m - l.length)*sz)).toList.length)) hg (by simp only [Yd,Yj,Yu,hcur,hml];omega) hnc hcm
  have htk:(cur.toList.take (l.length*sz)++(madeCells zs.toArray ((m - l.length)*sz)).toList++cur.toList.drop (l.length*sz+(madeCells zs.toArray ((m - l.length)*sz)).toList.length)).take (l.length*sz)=xs:=by
   rw [Yad,YR (by rw [Yj,hcur];omega),Yay,Nat.min_self,htake]
  rw [htk] at hown
  exact ⟨xs,by simp only [Anc.v];rw [ev];exact hown,PVs.mono g2.ev r2,r3⟩
theorem Zfw {ty':TypeId} {i off:Nat} {d':Option Nat} (n:Nat) (hx:Opd x ps (.adr (.val v) (i*sz+off))) (hR:∀ x,(R x).length=sz) (hi:i<l.length) :
  OpC P ⟨d',.nilCheck x,ty',pos,af,g⟩ ⟨ps,[(n,.ob (.val v) (ZC e sz R l))],.adr (.val v) (i*sz+off),[]⟩:=
 OpC.read fun act w F hp hr=>by
  obtain ⟨xs,h1,h2,h3⟩:=hr (n,.ob (.val v) (ZC e sz R l)) XA
  simp only [Anc.v] at h1
  rcases h1.2 with ⟨_,h0⟩ | ⟨b,cap,cur,ev,_,hg,hnc,hcm,hcs,htake⟩
  ·omega
  ·have ex:act.eval x = .pointer (some ⟨b,i*sz+off,none⟩):=by
    have:=hx act w (U F) hp
    simp only [SF.holds,Anc.v,ev,shift,Y2] at this
    exact this
   refine ⟨.pointer (some ⟨b,i*sz+off,none⟩),by simp [execOp,ex],fun τ' ht=>?_⟩
   simp [SF.holds,Anc.v,ev,shift]
theorem Zaj {ty':TypeId} {i:Nat} {d':Option Nat} (n:Nat) (hx:Opd x ps (.adr (.val v) (i*sz))) (hR:∀ x,(R x).length=sz) (hi:i<l.length) :
  OpC P ⟨d',.nilCheck x,ty',pos,af,g⟩ ⟨ps,[(n,.ob (.val v) (ZC e sz R l))],.adr (.val v) (i*sz),[]⟩:=
 Zfw (off:=0) n hx hR hi
theorem PVs.set {p:PV} {u:Value} {w:World} {yy:Ys} (hu:u.oneCell' = true) (hp:p.p u w yy):∀ {qs:List PV} {us:List Value} (k:Nat),k<qs.length→PVs qs us w yy→PVs (qs.set k p) (us.set k u) w yy
 | [],us,k,h,_=>by simp at h
 | q :: qs,[],k,_,h=>h.elim
 | q :: qs,x :: us,0,_,h=>⟨⟨hu,hp⟩,h.2⟩
 | q :: qs,x :: us,k+1,hk,h=>⟨h.1,PVs.set hu hp k (by simpa using hk) h.2⟩
theorem Zea [Inhabited α] {i off:Nat} {v':α} {p:PV} (n:Nat) (hx:Opd x ps (.adr (.val v) (i*sz+off))) (hR:∀ x,(R x).length=sz) (hi:i<l.length) (ho:off<sz) (hy:Opd y qs (.pv p)) (h1':∀ v w yy,p.p v w yy→v.oneCell' = true)
  (hv:R v' = (R (Nn l i)).set off p) (hs:(P.info? t).map (·.size)=some 1) :
  OpC P ⟨none,.store t x y,ty,pos,af,g⟩ ⟨ps++qs,[(n,.ob (.val v) (ZC e sz R l))],.pv .any,[(n,.ob (.val v) (ZC e sz R (l.set i v')))]⟩:=fun act w F K Q hw hp hr ht=>by
 obtain ⟨xs,h1,h2,h3⟩:=hr (n,.ob (.val v) (ZC e sz R l)) XA
 simp only [Anc.v] at h1 h3
 have hpv:=hy act w (U F) hp.right
 have hone:=h1' _ _ _ hpv
 have hxl:=h1.1
 rcases h1.2 with ⟨_,h0⟩ | ⟨b,cap,cur,ev,_,hg,hnc,hcm,hcs,htake⟩
 ·omega
 ·have ex:act.eval x = .pointer (some ⟨b,i*sz+off,none⟩):=by
   have:=hx act w (U F) hp.left
   simp only [SF.holds,Anc.v,ev,shift,Y2] at this
   exact this
  have hfit:i*sz+sz≤l.length*sz:=K9
  have hfit2:l.length*sz≤cur.size:=WZ
  have hcur:cur.toList.length=cur.size:=XA
  have hst:=Yab P b (i*sz+off) e [act.eval y] 0 cur w hg XG (by simpa using hone)
  have hcell:(act.eval y).cells = #[act.eval y]:=by cases e1:act.eval y <;> rw [e1] at hone <;> first | rfl | simp [Value.oneCell'] at hone
  have hmid:(cur.toList.take (i*sz+off) ++ [act.eval y] ++ cur.toList.drop (i*sz+off + [act.eval y].length))=cur.toList.set (i*sz+off) (act.eval y):=by
   rw [List.set_eq_take_append_cons_drop,Ye ow];simp
  rw [YaX,hmid] at hst
  have hrun:(execOp act.eval ⟨none,.store t x y,ty,pos,af,g⟩).run P w = .ok .skip (w.setRow b (cur.toList.set (i*sz+off) (act.eval y)).toArray):=by
   simp [execOp,ex,Instr.storeAt,Instr.sureAddr,storeVar,run_sizeOf hs,hcell,hst]
  have hf:∀ z,F n z ↔ z=b:=fun z=>by rw [h3 z,ev];simp [Value.ownBlock,Yak]
  obtain ⟨g1,g2⟩:=ZaD hw hg hf (cur.toList.set (i*sz+off) (act.eval y)).toArray
  simp only [Oper.wp,hrun,Oper.upon]
  refine ht undef _ F g1 g2 trivial ?_
  intro z hz
  simp only [Yn] at hz
  subst hz
  have hown:=Ze6 (n:=l.length) (sz:=sz) (us:=cur.toList.set (i*sz+off) (act.eval y)) hg (by rw [YT,hcur];exact hcs) hnc hcm
  rw [List.take_set,htake] at hown
  have hpk:=PVs.pick hR i hi h2
  have hus:PVs (R v') (((xs.drop (i*sz)).take sz).set off (act.eval y)) w (U F):=by
   rw [hv];exact PVs.set hone hpv off (by rw [hR];exact ho) hpk
  have hsr:=PVs.setR hR hus i hi h2
  have hxs:xs.take (i*sz)++((xs.drop (i*sz)).take sz).set off (act.eval y)++xs.drop (i*sz+sz)=xs.set (i*sz+off) (act.eval y):=by
   have h9:xs=xs.take (i*sz)++(xs.drop (i*sz)).take sz++xs.drop (i*sz+sz):=by
    rw [Yad,← List.drop_drop,YaR,YaR]
   have hl1:(xs.take (i*sz)).length=i*sz:=W4
   have hl2:((xs.drop (i*sz)).take sz).length=sz:=by rw [Yj,Yu];omega
   conv=>rhs;rw [h9]
   rw [Yad,Yad,List.set_append_right _ _ ow,hl1,Nat.add_sub_cancel_left,List.set_append_left _ _ ow]
  rw [hxs] at hsr
  refine ⟨xs.set (i*sz+off) (act.eval y),by simp only [Anc.v,YT];rw [ev];exact hown,PVs.mono g2.ev hsr,h3⟩
theorem ZcG {i d' bs:Nat} {m:Int} {k kn:IntKind} {tn:TypeId} {zs:List Value} {z:α} (n n':Nat) (hu:P.underlying t=some (.slice e)) (htn:P.underlying tn=some (.int kn)) (hi:(P.info? e).map (fun i=>(i.size,i.bytes,i.zero.map (·.cells.toList)))=some (sz,bs,some zs)) (hz:Nat.beq zs.length sz=true) (h0:Nat.blt 0 sz=true) (hR:∀ x,(R x).length=sz) (hp:∀ w yy,PVs (R z) zs w yy)
  (hx:Opd x ps (.pv (.is (Zfu i v)))) (hy:Opd y qs (.pv (.int k m))) (h1:i≤l.length) (h2:capV v<i+m.toNat) (h3:0<m) (hb:(i+m.toNat)*bs≤140737488355328) (h63:i+m.toNat≤9223372036854775807) :
  OpC P ⟨some d',.call { callee:=.builtin .append,args:=#[x,y],argTypes:=#[t,tn] },ty,pos,af,g⟩ ⟨ps++qs,[(n,.ob (.val v) (ZC e sz R l))],.same d',[(n',.ob (.slot d') (ZC e sz R (l.take i++List.replicate m.toNat z)))]⟩:=fun act w F K Q hw hpp hr ht=>by
 obtain ⟨xs,r1,r2,r3⟩:=hr (n,.ob (.val v) (ZC e sz R l)) XA
 simp only [Anc.v] at r1 r3
 have hxl:=r1.1
 obtain ⟨ti,hti,hi2⟩:=Yac.1 hi
 simp only [Prod.mk.injEq] at hi2
 obtain ⟨e1,e2,e3⟩:=hi2
 obtain ⟨zv,hz1,hz2⟩:=Yac.1 e3
 have hzl:zs.length=sz:=Y8 hz
 have hsz:0<sz:=by simpa [Yav] using h0
 have hmk:(m.toNat:Int)=m:=Int.toNat_of_nonneg ow
 have hmade:∀ q,(Builtin.zeroCells zv.cells q).toList=(madeCells zs.toArray (q*sz)).toList:=fun q=>by
  rw [← hz2];unfold Builtin.zeroCells madeCells;rw [← hzl,← hz2];simp
 have hil:i*sz≤l.length*sz:=YE _ h1
 have hol:(xs.take (i*sz)).length=i*sz:=W4
 obtain ⟨base,hev,hold⟩:∃ base,Zfu i v = .slice base i (capV v)∧(Builtin.firstCells ti.size i (.slice base i (capV v))).run P w.drew = .ok (xs.take (i*sz)).toArray w.drew:=by
  rcases r1.2 with ⟨hv0,hn0⟩ | ⟨b,cap,cur,ev,_,hg,hnc,hcm,hcs,htake⟩
  ·have hi0:i=0:=ow
   subst hi0
   refine ⟨none,by rw [hv0];rfl,?_⟩
   simp [Builtin.firstCells]
  ·refine ⟨some ⟨b,0,none⟩,by rw [ev];rfl,?_⟩
   have hsrc:∀ q u,(xs.take (i*sz))[q]? = some u→w.drew.cell? ((⟨b,0,none⟩:Addr).add q)=some u:=fun q u hq=>by
    rw [YaS] at hq
    split at hq
    ·rw [← htake,YaS] at hq
     split at hq
     ·rw [add_lit]
      have hg':w.drew.heap[b]? = some (.cells cur e (0,0)):=hg
      simp only [World.cell?,hg']
      simpa using hq
     ·cases hq
    ·cases hq
   have hld:=YaE (P:=P) w.drew ⟨b,0,none⟩ (xs.take (i*sz)) hsrc
   rw [hol] at hld
   simp [Builtin.firstCells,e1,hld]
 have ex:act.eval x = .slice base i (capV v):=by rw [(hx act w (U F) hpp.left).1,hev]
 have ey:act.eval y = .int k (m.toNat:Int):=by rw [(hy act w (U F) hpp.right).1,hmk]
 have hfit:=growslice_fits (bytes:=ti.bytes) h2 (by rw [e2];exact hb)
 have hgz:=Lib.run_append_grow_zeros (P:=P) w t tn ty e ti zv k kn hu htn hti hz1 base i (capV v) (xs.take (i*sz)) hold m.toNat ow (by rw [e1];exact hsz) h2 ow (by
  rw [e2]
  have:m.toNat*bs≤(i+m.toNat)*bs:=YE _ ow
  omega) hfit
 obtain ⟨cap',hcap'⟩:∃ c,c=grownCap w (i+m.toNat) (capV v) e:=⟨_,rfl⟩
 have hge:i+m.toNat≤cap':=by rw [hcap'];exact grownCap_ge _ _ _ _
 have hle:cap' ≤ maxLen:=by rw [hcap'];exact grownCap_le_maxLen _ _ _ _ (by unfold maxLen;exact h63)
 rw [← hcap'] at hgz
 have hw2:Wf F w.drew:=⟨hw.dis,hw.bd⟩
 obtain ⟨g1,g2⟩:=ZbN hw2 n' (.cells ((xs.take (i*sz)).toArray++Builtin.zeroCells zv.cells m.toNat++Builtin.zeroCells zv.cells (cap' - (i+m.toNat))) e)
 have g3:Stp [n'] w F (w.drew.alloc (.cells ((xs.take (i*sz)).toArray++Builtin.zeroCells zv.cells m.toNat++Builtin.zeroCells zv.cells (cap' - (i+m.toNat))) e)) _:=⟨g2.os,g2.tape,g2.output,g2.size,g2.keep,g2.fkeep,g2.fnew⟩
 have hrun:(execOp act.eval ⟨some d',.call { callee:=.builtin .append,args:=#[x,y],argTypes:=#[t,tn] },ty,pos,af,g⟩).run P w = .ok (.value (.slice (some ⟨w.heap.size,0,none⟩) (i+m.toNat) cap')) (w.drew.alloc (.cells ((xs.take (i*sz)).toArray++Builtin.zeroCells zv.cells m.toNat++Builtin.zeroCells zv.cells (cap' - (i+m.toNat))) e)):=by
  simp only [execOp,resolve,invoke,builtin,ex,ey,YD,YN,Yq,List.map_toArray,YJ,List.map_nil,hgz]
 simp only [Oper.wp,hrun,Oper.upon]
 refine ht _ _ _ g1 g3 ⟨by simp [upd],rfl⟩ ?_
 intro q hq
 simp only [Yn] at hq
 subst hq
 have hτ:upd (Act.tau act) (some d') (.slice (some ⟨w.heap.size,0,none⟩) (i+m.toNat) cap') d' = .slice (some ⟨w.heap.size,0,none⟩) (i+m.toNat) cap':=by simp [upd]
 have hml:∀ q,(madeCells zs.toArray (q*sz)).toList.length=q*sz:=fun q=>by simp [size_madeCells]
 have hll:(l.take i++List.replicate m.toNat z).length=i+m.toNat:=XG
 have hls:((xs.take (i*sz)).toArray++Builtin.zeroCells zv.cells m.toNat++Builtin.zeroCells zv.cells (cap' - (i+m.toNat))).toList=xs.take (i*sz)++(madeCells zs.toArray (m.toNat*sz)).toList++(madeCells zs.toArray ((cap' - (i+m.toNat))*sz)).toList:=by
  simp only [Array.toList_append,hmade]
 have hsub:(cap' - (i+m.toNat))*sz=cap' * sz - (i+m.toNat)*sz:=Nat.sub_mul _ _ _
 have hsz2:(i+m.toNat)*sz≤cap' * sz:=YE _ hge
 have hadd:(i+m.toNat)*sz=i*sz+m.toNat*sz:=Ya0 _ _ _
 refine ⟨xs.take (i*sz)++(madeCells zs.toArray (m.toNat*sz)).toList,⟨by rw [hll,Yd,hol,hml,hadd],.inr ⟨w.heap.size,cap',_,?_,Yp _,YaO _ _,by rw [hll];exact hge,hle,?_,?_⟩⟩,?_,fun b=>?_⟩
 ·simp only [Anc.v,hτ,hll]
 ·rw [← Array.length_toList,hls];simp only [Yd,hol,hml];omega
 ·rw [hls,hll,hadd,YR (by simp only [Yd,hol,hml];omega),Y1 (by simp only [Yd,hol,hml];omega)]
 ·rw [Yae,ZcT hR]
  exact (PVs.mono g3.ev (r2.take _)).append (Zes hzl hsz (hp _ _) _)
 ·simp [Anc.v,hτ,Value.ownBlock,Yak]
theorem Zmf {f:FuncId} {args:Array Operand} {tys:Array TypeId} {d':Nat} {avs:List PV} {h':Value→HP} {q:Value→PV} {fn:Func} (n:Nat)
    (hc : FnG P f 1 avs [HP.star []] (PV.self q) (fun v => [h' v])) (hf : P.funcs[f]? = some fn) (hb : fn.body.isSome = true) (hn : (fn.name == "runtime.NumGoroutine") = false)
    (ha:∀ (a:Act) w y,Hps ps (Act.tau a) w y → ∃ vs:List Value,args.map a.eval=vs.toArray∧PVt avs vs w y) :
    OpC P ⟨some d',.call { callee:=.value (.func f),args:=args,argTypes:=tys },ty,pos,af,g⟩ ⟨ps,[(n,RS.hp (HP.star []))],.fn d' q,[(n,RS.ob (.slot d') h')]⟩:=
  Zb3 (is:=[n]) hc hf hb hn ha rfl XA (fun τ w F hr i x hi=>by
      match i,hi with
      | 0,hi=>simp at hi;subst hi;exact ⟨n,rfl,hr (n,RS.hp (HP.star [])) XA⟩)
    (fun τ w y v h=>by
      show (q (upd τ (some d') v d')).p v w y
      have:upd τ (some d') v d' = v:=by simp [upd]
      rw [this];exact h) (fun x hx=>by
      simp only [Yn] at hx
      subst hx
      exact ⟨0,rfl,fun v τ w f y ⟨k,hk,hp⟩=>by
        simp at hk;subst hk
        simpa [RS.holds,Anc.v,upd] using hp⟩) rfl (fun _=>rfl)
def cellN (i:Nat):Value→Value
 | .agg cs=>cs.toList.getD i undef
 | _=>undef
abbrev Zpq (v:Value):PV:=.agg [.is (cellN 0 v),.is (cellN 1 v)]
abbrev ZnG (k1 k2:Value→HP) (v:Value):HP:=HP.star [.ob (.val (cellN 0 v)) k1,.ob (.val (cellN 1 v)) k2]
theorem ZoP {B:ZaK} {F0:Fp} (hG:Zic B F0 1) {E:En} {a:Act} {w:World} {F:Fp} {fn:Func} {v1 v2:Value} {k1 k2:Value→HP} {ss:List SF} (G:Sat B E a w F) (h0:look E.r 0=some (frame B))
  (hr:ROk P E fn.results.toList ss) (hq:ZdG ss (.agg [.is v1,.is v2])) (h1:look E.r 1=some (RS.hp (HP.star [.ob (.val v1) k1,.ob (.val v2) k2]))) :
  bodyPost P fn (RG B F0 1 (PV.self Zpq) (fun v=>[ZnG k1 k2 v])) .ret a w:=by
 have key:∀ {v w y},(PV.agg [.is v1,.is v2]).p v w y→cellN 0 v=v1∧cellN 1 v=v2:=by
  rintro v w y ⟨vs,rfl,h⟩
  match vs,h with
  | [a,b],h=>
   have e1:a=v1:=h.1.2.1
   have e2:b=v2:=h.2.1.2.1
   exact ⟨by simp [cellN,e1],by simp [cellN,e2]⟩
 refine Zj4 hG G h0 hr (q:=PV.self _) (fun τ w y vs hv=>?_) fun v τ y hv i h hi=>?_
 ·have hp:=hq τ w y vs hv
  obtain ⟨e1,e2⟩:=key hp
  show (PV.agg [.is (cellN 0 (ZeB vs)),.is (cellN 1 (ZeB vs))]).p (ZeB vs) w y
  rw [e1,e2];exact hp
 ·obtain ⟨vs,rfl,hvs⟩:=hv
  obtain ⟨e1,e2⟩:=key (hq _ _ _ _ hvs)
  match i,hi with
  | 0,hi=>
   simp at hi;subst hi
   refine ⟨_,h1,YP _,fun _ _ _ h=>?_⟩
   unfold ZnG
   rw [e1,e2];exact h
end
theorem Z6 {P:Program} {d:Option Nat} {ty:TypeId} {pos:String} {af:Array Edge} {g:Option (Nat×Bool)} {x:Operand} {ps:List (Nat×SF)} {a:Anc} {α:Type} {R:α→List PV} {l:List α} {T sz i:Nat} {s:TypeId} {f off:Nat} (n:Nat) (hx:Opd x ps (.adr a (i*sz))) (hi:i<l.length) (ho:P.fieldOff s f=some off) (hd:ZaL d (.adr a (i*sz+off))=true) :
  OpC P ⟨d,.fieldAddr s x f,ty,pos,af,g⟩ ⟨ps,[(n,.ob a (ZC T sz R l))],.adr a (i*sz+off),[]⟩:=
 OpC.read fun act w F hp hr=>by
  obtain ⟨xs,h2,h3,h4⟩:=hr (n,.ob a (ZC T sz R l)) XA
  obtain ⟨ad,cap,e1,h5,h6,h7⟩:=ZM h2
  rcases h7 with h7 | ⟨b,rfl,_,_⟩
  ·omega
  ·have ev:a.v (Act.tau act) = .slice (some ⟨b,0,none⟩) l.length cap:=e1
   have e2:act.eval x = .pointer (some ⟨b,i*sz,none⟩):=by
    have:=hx act w (U F) hp
    simp only [SF.holds,ev,shift,Y2] at this
    exact this
   refine ⟨.pointer (some ⟨b,i*sz+off,none⟩),by simp [execOp,e2,ZbW ho],fun τ' ht=>Z8 (w:=w) (y:=U F) hd ht ?_⟩
   simp [SF.holds,ev,shift]
end Go.Gm
