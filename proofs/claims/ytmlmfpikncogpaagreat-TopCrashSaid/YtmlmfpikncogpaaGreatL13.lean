import Derived.Test.YtmlmfpikncogpaaGreatL12
namespace Go.Proofs.YtmlmfpikncogpaaGreat
open Go.RowKit
set_option linter.unusedSimpArgs false
set_option linter.unusedVariables false
set_option maxRecDepth 100000
set_option maxHeartbeats 16000000
theorem xP {a Y L:List Nat} {n:Nat} (c:∀y∈a,y∈Y\/n<=y) (d:∀y∈Y,y∉L) (e:∀x∈L,x<n):∀y∈a,y∉L:=fun y f b=>by
 rcases c y f with h | h
 ·exact d y h b
 have:=e y b;omega
theorem aE.keep0 {T:BTy} {J w w':World} {p q r:Nat} {t v o c e a j m g:Option Addr} {u x s d f b l n i:Nat} {C H A D B E:List Value} {cs y z F:List Nat}
 (h:aE T J w p q r t v o c e a j m g u x s d f b l n i C H A D B E cs y z F) (k:aa [] w w'):aE T J w' p q r t v o c e a j m g u x s d f b l n i C H A D B E cs y z F:=
 ⟨h.X.keep k (by simp),h.Q.keep k (by simp),h.R.keep k (by simp),h.nd,h.kp.more k (by simp),h.nw⟩
theorem aU.numk {T:BTy} {w:World} {p n:Nat} {a g d:Option Addr} {b i e:Nat} {c j:List Value} {cs:List Nat} (h:aU T w p a b g i d e c j cs) (f:c.length=n):
 w.cell? (U p 0)=G a n b/\w.ownsRow 0 T.tk 1 (.slice a n b) n c/\p<w.heap.size:=by
  subst f;exact⟨h.blk.cell 0,h.rk,h.blk.lt⟩
theorem aU.numv {T:BTy} {w:World} {p n:Nat} {g a d:Option Addr} {i b e:Nat} {j c:List Value} {cs:List Nat} (h:aU T w p g i a b d e j c cs) (f:c.length=n):
 w.cell? (U p 1)=G a n b/\w.ownsRow 0 T.tv 1 (.slice a n b) n c/\p<w.heap.size:=by
  subst f;exact⟨h.blk.cell 1,h.rv,h.blk.lt⟩
theorem lG (cs:List Nat) (j:Nat):(cs.map ptr).eraseIdx j=(cs.eraseIdx j).map ptr:=by
 rw[DU,DU];simp[El,En]
theorem ru {p:Nat} {a d b:Option Addr}:∀y∈p::fb a,y∈ay p a d b:=fun y c=>by
 rw[bf];rcases Db.1 c with h | h
 ·exact .inl h
 exact .inr (.inl h)
theorem qG {p:Nat} {d a b:Option Addr}:∀y∈p::fb a,y∈ay p d a b:=fun y c=>by
 rw[bf];rcases Db.1 c with h | h
 ·exact .inl h
 exact .inr (.inr (.inl h))
theorem pY {w:World} {b e n c:Nat} {A:Option Addr} {d:List Value} (h:w.ownsRow b e 1 (.slice A n c) n d):bm w A n d:=by
 rcases DY n with a | a
 ·exact .inl a
 obtain⟨g,c',k,_,_,_,_,f,_⟩:=ax h a;injection k with hA _ _;exact .inr ⟨g,0,hA,fun j u i=>by rw[Dl];exact f j u i⟩
def j0 (T:BTy) (w:World) (p q r:Nat) (C E J K B D:List Value) (cs H y:List Nat) (i:Nat) (F:List Nat) (e:Ending) (w':World):Prop:=
 ∃t v o c f a k m h u x s d g b l n j z A,e=.returned (.tuple #[])/\C[i]? =some z/\E[i]? =some A/\
  Z (aE T w w' p q r t v o c f a k m h u x s d g b l n j (C.eraseIdx i) (E.eraseIdx i) (J++[z]++B) (K++[A]++D) B D (cs.eraseIdx (i+1)) (H++y) y F)
def ix:=fun H (J:Value->Prop) (K:Value->Prop) p6=>∀(w:World) (L p q r i m a d D e E:Nat) (S T R N O P Q:Nat) (l t:Option Addr) (B C A o s n x y u:Nat) (c g k z b f:List Value) (cs h j F:List Nat)
 (M:aE H w w p q r (V S) (V T) (V R) (V N) (V O) l (V P) (V Q) t B C A o s n x y u c g k z b f cs h j F)
 (l1:c.length=a) (l2:g.length=a) (l3:cs.length=a+1) (m1:k.length=d) (m2:z.length=d) (m3:h.length=D) (r1:b.length=e) (r2:f.length=e) (r3:j.length=E)
 (hn:a=i+1+m) (hq:cs[i]? =some q) (hr:cs[i+1]? =some r) (W:a<=100) (X:d<=100/\D<=100) (Y:e<=100/\E<=100) (b4:1<=d/\1<=e)
 (f1:∀v∈c,J v) (f2:∀v∈g,K v) (f3:∀v∈b,J v) (f4:∀v∈f,K v),Calls Tryz.prog p6 #[ptr L,ptr p,I i] w (j0 H w p q r c g k z b f cs h j i F)
theorem eO:ix tyI cX dk 208/\ix tyS dP dW 210:=by
 refine⟨?_,?_⟩;have a:=trivial;rotate_left;rotate_left
 all_goals
  intro w bt p q r i m t j dq J dr H A xc qk qv rk rv b9 c4 z B cv a0 a1 c3 a4 a5 cd ks vs kq vq kr vr cs cq cr F b l1 l2 l3 m1 m2 m3 r1 r2 r3 hn hq hr b1 b2 b3 b4 f1 f2 f3 f4
  first | (have:=a;obtain⟨bk,hk,a9,a7,a8⟩:=info_parts kH) | obtain⟨bk,hk,a9,a7,a8⟩:=info_parts infoS
  first | (have:=a;obtain⟨bl,u,ar,an,ap⟩:=info_parts pg) | obtain⟨bl,u,ar,an,ap⟩:=info_parts kH
  first | (have:=a;obtain⟨cc,hp,bi,bd,bh⟩:=info_parts pi) | obtain⟨cc,hp,bi,bd,bh⟩:=info_parts ph
  obtain⟨d4,b8⟩:∃e,ks[i]? =some e:=⟨_,CT (by omega)⟩;obtain⟨ck,a6⟩:∃e,vs[i]? =some e:=⟨_,CT (by omega)⟩;obtain⟨M,rfl⟩:=f1 d4 (CW b8)
  first | (have:=a;obtain⟨eA,en,ec,rfl⟩:=f2 ck (CW a6)) | obtain⟨ey,rfl⟩:=f2 ck (CW a6)
  first | (have:=a;have b6:Z ((I M).oneCell'=true):=bZ (rfl)) | have b6:Z ((Value.string M).oneCell'=true):=bZ (rfl)
  first | (have:=a;have b7:Z ((Value.slice eA en ec).oneCell'=true):=bZ (rfl)) | have b7:Z ((I ey).oneCell'=true):=bZ (rfl)
  first | (have:=a;have bn:Z (∀v∈kr,v.oneCell'=true):=bZ (fun v u=>dQ (f3 v u))) | have bn:Z (∀v∈kr,v.oneCell'=true):=bZ (fun v u=>dO (f3 v u))
  first | (have:=a;have bp:Z (∀v∈vr,v.oneCell'=true):=bZ (fun v u=>dN (f4 v u))) | have bp:Z (∀v∈vr,v.oneCell'=true):=bZ (fun v u=>dM (f4 v u))
  first | (have:=a;have bs:Z (∀v∈ks,v.oneCell'=true):=bZ (fun v u=>dQ (f1 v u))) | have bs:Z (∀v∈ks,v.oneCell'=true):=bZ (fun v u=>dO (f1 v u))
  first | (have:=a;have c2:Z (∀v∈vs,v.oneCell'=true):=bZ (fun v u=>dN (f2 v u))) | have c2:Z (∀v∈vs,v.oneCell'=true):=bZ (fun v u=>dM (f2 v u))
  clear f1 f2 f3 f4;have e0:(i:Int)<(t:Int):=by omega
  have dn:(i:Int)<(t:Int)+1:=by omega
  have ds:(i:Int)+1<(t:Int)+1:=by omega
  have e3:IntKind.i64.wrap ((i:Int)+1)=(i:Int)+1:=C0 _ (by omega);have e4:IntKind.i64.wrap ((i:Int)+2)=(i:Int)+2:=C0 _ (by omega);have C:=b.X.num l1 l2 l3;have x2:=C.1.cell 2;obtain⟨g0,c0,ee,_,_,_,_,cb,_⟩:=ax C.2.2.2 (by omega);injection ee with e1 _ e2;injection e1 with e1;injection e1 with e1;subst e1 e2;have xq:w.cell? (U xc i)=some (.pointer (V q)):=cb i _ (by rw[De,hq];rfl);have xr:w.cell? (U xc (i+1))=some (.pointer (V r)):=cb (i+1) _ (by rw[De,hr];rfl);clear C cb;replace b:=bZ b;replace hn:=bZ hn;replace l1:=bZ l1;replace l2:=bZ l2;replace l3:=bZ l3;replace m1:=bZ m1;replace m2:=bZ m2;replace m3:=bZ m3;replace r1:=bZ r1;replace r2:=bZ r2;replace r3:=bZ r3;replace hq:=bZ hq;replace hr:=bZ hr;replace b8:=bZ b8;replace a6:=bZ a6;replace hk:=bZ hk;replace a9:=bZ a9;replace a7:=bZ a7;replace a8:=bZ a8;replace u:=bZ u;replace ar:=bZ ar;replace an:=bZ an;replace ap:=bZ ap;replace hp:=bZ hp;replace bi:=bZ bi;replace bd:=bZ bd;replace bh:=bZ bh;unfold ptr
  first | (have:=a;go_enter Tryz.func208,Tryz.ntmps208) | go_enter Tryz.func210,Tryz.ntmps210
  go_wp2_with fail;go_quiet (fail);obtain⟨wa,ct⟩:∃x,x=w.drewN nq:=⟨_,rfl⟩;replace b:=bZ (b.o.keep0 ((aa.refl [] w).drewN nq));rw[<-ct] at b ⊢;clear ct x2 xq xr;have s:=bZ b.o.drew;have c6:=s.o.ls;obtain⟨hN,a2,ak,ac⟩:=c6;have C:=s.o.X.numk l1.o;have NQ:=s.o.Q.numk m1.o;have NR:=s.o.R.numk r1.o;obtain⟨g0,c0,ee,_,_,_,_,b5,_⟩:=ax C.2.1 (by omega);injection ee with e1 _ e2;injection e1 with e1;injection e1 with e1;subst e1 e2
  first | (have:=a;have f:wa.drew.cell? (U q 0)=G (V qk) j a0/\wa.drew.cell? (U p 0)=G (V H) t z/\wa.drew.cell? (U H i)=some ((I M))/\wa.drew.cell? (U r 0)=G (V rk) J a4:=⟨NQ.1,C.1,b5 i _ b8.o,NR.1⟩) | have f:wa.drew.cell? (U q 0)=G (V qk) j a0/\wa.drew.cell? (U p 0)=G (V H) t z/\wa.drew.cell? (U H i)=some ((Value.string M))/\wa.drew.cell? (U r 0)=G (V rk) J a4:=⟨NQ.1,C.1,b5 i _ b8.o,NR.1⟩
  have RQ:=bZ NQ.2.1;have T:=bZ (pY NR.2.1)
  first | (have:=a;have P:Z (∀(W L:World) (Y:List Nat),(W.cell? (U q 0)=G (V qk) j a0/\W.cell? (U p 0)=G (V H) t z/\W.cell? (U H i)=some ((I M))/\W.cell? (U r 0)=G (V rk) J a4)->aa Y W L->(∀y∈Y,y∉[q,p,H,r,rk])->(L.cell? (U q 0)=G (V qk) j a0/\L.cell? (U p 0)=G (V H) t z/\L.cell? (U H i)=some ((I M))/\L.cell? (U r 0)=G (V rk) J a4)):=bZ (fun W L Y h1 h2 h3=>⟨h2.cellEq h1.1 (fun d=>h3 _ d (by simp)),h2.cellEq h1.2.1 (fun d=>h3 _ d (by simp)),h2.cellEq h1.2.2.1 (fun d=>h3 _ d (by simp)),h2.cellEq h1.2.2.2 (fun d=>h3 _ d (by simp))⟩)) | have P:Z (∀(W L:World) (Y:List Nat),(W.cell? (U q 0)=G (V qk) j a0/\W.cell? (U p 0)=G (V H) t z/\W.cell? (U H i)=some ((Value.string M))/\W.cell? (U r 0)=G (V rk) J a4)->aa Y W L->(∀y∈Y,y∉[q,p,H,r,rk])->(L.cell? (U q 0)=G (V qk) j a0/\L.cell? (U p 0)=G (V H) t z/\L.cell? (U H i)=some ((Value.string M))/\L.cell? (U r 0)=G (V rk) J a4)):=bZ (fun W L Y h1 h2 h3=>⟨h2.cellEq h1.1 (fun d=>h3 _ d (by simp)),h2.cellEq h1.2.1 (fun d=>h3 _ d (by simp)),h2.cellEq h1.2.2.1 (fun d=>h3 _ d (by simp)),h2.cellEq h1.2.2.2 (fun d=>h3 _ d (by simp))⟩)
  have E:Z (∀y∈fb (V qk),y∉[q,p,H,r,rk]):=bZ (cG hN 5 [4,0,1,7,8] rfl rfl (by decide));have hL:Z (∀x∈[q,p,H,r,rk],x<wa.drew.heap.size):=bZ (by
   intro x hx;simp only[Db,Dw,or_false] at hx;rcases hx with rfl | rfl | rfl | rfl | rfl
   ·exact NQ.2.2
   ·exact C.2.2
   ·exact(aw C.2.1 (by simp[fb])).2.1
   ·exact NR.2.2
   exact(aw NR.2.1 (by simp[fb])).2.1)
  clear hN a2 ak ac C NQ NR b5 b;go_wp2_with fail
  first | (have:=a;refine ad (S:=(fun w':World=>w'.cell? (U q 0)=G (V qk) j a0/\w'.cell? (U p 0)=G (V H) t z/\w'.cell? (U H i)=some ((I M))/\w'.cell? (U r 0)=G (V rk) J a4)) (n:=21) (by kernel_rfl) ?_) | refine ad (S:=(fun w':World=>w'.cell? (U q 0)=G (V qk) j a0/\w'.cell? (U p 0)=G (V H) t z/\w'.cell? (U H i)=some ((Value.string M))/\w'.cell? (U r 0)=G (V rk) J a4)) (n:=21) (by kernel_rfl) ?_
  generalize wa.drew=wd at*;obtain⟨wc,b0⟩:∃x,x=wd:=⟨_,rfl⟩;have Ka:Z (aa [] wd wc):=bZ (by rw[b0];exact aa.refl _ _);rw[<-b0] at RQ T f ⊢;clear b0;refine ord [0,1,2,3,4,5,6,7,8,9,10,11,14,15,16,17] ?_
  iterate 16 (refine tq f ?_;try simp only[PT,Y1,Y2,Y3])
  refine av ?_;refine J1 12 fun K O=>?_;dsimp only[Y1,Y2,Y3];go_simp;obtain⟨b1,bb⟩:∃g,g=wc.heap.size:=⟨_,rfl⟩
  first | (have:=a;have kz:aa [] wc (wc.alloc (.cells #[(I M)] 2)):=(aa.refl [] wc).alloc _) | have kz:aa [] wc (wc.alloc (.cells #[(Value.string M)] 9)):=(aa.refl [] wc).alloc _
  first | (have:=a;have B1:=bZ (Blk.new wc 2 #[(I M)])) | have B1:=bZ (Blk.new wc 9 #[(Value.string M)])
  replace RQ:=bZ (ab RQ.o kz);replace T:=bZ (T.o.keep kz (by simp));have Kb:=bZ (Ka.o.trans kz);have f:=P.o _ _ [] f kz (by simp);refine O _ _ (.inr f) ?_;clear O K kz;rw[<-bb] at B1 ⊢
  first | (have:=a;generalize wc.alloc (.cells #[(I M)] 2)=wz at*) | generalize wc.alloc (.cells #[(Value.string M)] 9)=wz at*
  obtain⟨w3,c8⟩:∃x,x=wz:=⟨_,rfl⟩;subst c8;clear bb
  try simp only[PT,Y1,Y2,Y3]
  refine J1 13 fun K O=>?_;dsimp only[Y1,Y2,Y3]
  first | (have:=a;refine am (.tmp 27) (.tmp 35) 207 (by rfl) 0 2 bk (I 0) 1 8 Tryz.underlying207 hk.o a9.o a7.o a8.o rfl (by decide) (.slice (V qk) j a0) j (kq) (by rfl) RQ.o (V b1) 1 _ [(I M)] (by rfl) (by simp[]) (by have:=aI (off:=0) (l:=[(I M)]) B1.o (by simp) 1;exact this) (by simp;exact b6.o) (by unfold maxLen;omega) (by omega) (C3 _) ?_) | (refine am (.tmp 27) (.tmp 35) 251 (by rfl) 0 9 bk (.string ⟨#[]⟩) 1 16 Tryz.underlying251 hk.o a9.o a7.o a8.o rfl (by decide) (.slice (V qk) j a0) j (kq) (by rfl) RQ.o (V b1) 1 _ [(Value.string M)] (by rfl) (by simp[]) (by have:=aI (off:=0) (l:=[(Value.string M)]) B1.o (by simp) 1;exact this) (by simp;exact b6.o) (by unfold maxLen;omega) (by omega) (C3 _) ?_)
  intro v4 w4 q1 q2 q3 q4;obtain⟨ch,d0,rfl,o,k,nf⟩:=dz q1 q2 q4;clear q1 q2 q3 q4;have ky:Z (aa (fb (V qk)) wd w4):=bZ (Kb.o.nil.trans k.o);have ny:Z (∀g∈fb ch,g∈fb (V qk)\/wd.heap.size<=g):=bZ (fun g hg=>(nf.o g hg).imp_right (Dc Kb.o.size));replace T:=bZ (T.o.keep k.o (fun y hy d=>E.o y hy (by rw[show fb (V rk)=[rk] from rfl,CZ] at d;rw[d];simp)));have f:=P.o _ _ _ f k.o E.o;refine O _ _ (.inr f) ?_;clear O K k nf RQ B1 Kb;obtain⟨w5,c9⟩:∃x,x=w4:=⟨_,rfl⟩;subst c9
  try simp only[PT,Y1,Y2,Y3]
  refine J1 18 fun K O=>?_;dsimp only[Y1,Y2,Y3]
  first | (have:=a;refine am (.tmp 36) (.tmp 40) 207 (by rfl) 0 2 bk (I 0) 1 8 Tryz.underlying207 hk.o a9.o a7.o a8.o rfl (by decide) (.slice ch (j+1) d0) (j+1) (kq++[(I M)]) (by rfl) o.o ((V rk)) J _ kr (by rfl) (by simp[r1.o]) T.o bn.o (by unfold maxLen;omega) (by omega) (C3 _) ?_) | (refine am (.tmp 36) (.tmp 40) 251 (by rfl) 0 9 bk (.string ⟨#[]⟩) 1 16 Tryz.underlying251 hk.o a9.o a7.o a8.o rfl (by decide) (.slice ch (j+1) d0) (j+1) (kq++[(Value.string M)]) (by rfl) o.o ((V rk)) J _ kr (by rfl) (by simp[r1.o]) T.o bn.o (by unfold maxLen;omega) (by omega) (C3 _) ?_)
  intro v4 w4 q1 q2 q3 q4;obtain⟨d2,dc,rfl,o,k,nf⟩:=dz q1 q2 q4;clear q1 q2 q3 q4;have a3:Z (aa (fb (V qk)) wd w4):=bZ (ky.o.more k.o ny.o);have nz:Z (∀g∈fb d2,g∈fb (V qk)\/wd.heap.size<=g):=bZ (fun g hg=>by
   rcases nf.o g hg with h | h
   ·exact ny.o g h
   exact .inr (Dc ky.o.size h))
  have f:=P.o _ _ _ f k.o (xP ny.o E.o hL.o);have QB:=s.o.Q.blk.keep a3.o (aW.1 s.o.Q.nd).1.1;have qb:=QB.cell 0;have qf:=QB.frozen;clear QB;refine O _ _ (.inr f) ?_;clear O K k nf ky ny
  try simp only[PT,Y1,Y2,Y3]
  refine ord [19,20] ?_
  iterate 2 (refine tq f ?_;try simp only[PT,Y1,Y2,Y3])
  refine av ?_;refine JQ 21 ?_
  try simp only[PT,Y1,Y2,Y3]
  refine JD ?_
  first | (have:=a;have b:=bZ (let N:=s.o.Q.keys1 (ks':=kq++[(I M)]++kr) (n':=j+1+J) (by simp[m1.o,r1.o]<;>omega) o.o a3.o nz.o;s.o.stQ N.1 N.2.1 ru N.2.2)) | (have b:=bZ (let N:=s.o.Q.keys1 (ks':=kq++[(Value.string M)]++kr) (n':=j+1+J) (by simp[m1.o,r1.o]<;>omega) o.o a3.o nz.o;s.o.stQ N.1 N.2.1 ru N.2.2))
  clear o a3 nz T f;go_wp2_with fail;obtain⟨w1,cm⟩:∃x,x=w4.setCell (U q 0) (.slice d2 (j+1+J) dc):=⟨_,rfl⟩;rw[<-cm] at b ⊢;clear cm qb qf;obtain⟨qk,c1,ee,_,_,_,_,_,_⟩:=ax b.o.Q.rk (by simp<;>omega);injection ee with e1 _ e2;subst e1 e2;clear s P hL E Ka;have s:=bZ b.o.drew;have c6:=s.o.ls;obtain⟨hN,a2,ak,ac⟩:=c6;have C:=s.o.X.numv l2.o;have NQ:=s.o.Q.numv m2.o;have NR:=s.o.R.numv r2.o;obtain⟨g0,c0,ee,_,_,_,_,b5,_⟩:=ax C.2.1 (by omega);injection ee with e1 _ e2;injection e1 with e1;injection e1 with e1;subst e1 e2
  first | (have:=a;have f:w1.drew.cell? (U q 1)=G (V qv) j a1/\w1.drew.cell? (U p 1)=G (V A) t B/\w1.drew.cell? (U A i)=some ((Value.slice eA en ec))/\w1.drew.cell? (U r 1)=G (V rv) J a5:=⟨NQ.1,C.1,b5 i _ a6.o,NR.1⟩) | have f:w1.drew.cell? (U q 1)=G (V qv) j a1/\w1.drew.cell? (U p 1)=G (V A) t B/\w1.drew.cell? (U A i)=some ((I ey))/\w1.drew.cell? (U r 1)=G (V rv) J a5:=⟨NQ.1,C.1,b5 i _ a6.o,NR.1⟩
  have RQ:=bZ NQ.2.1;have T:=bZ (pY NR.2.1)
  first | (have:=a;have P:Z (∀(W L:World) (Y:List Nat),(W.cell? (U q 1)=G (V qv) j a1/\W.cell? (U p 1)=G (V A) t B/\W.cell? (U A i)=some ((Value.slice eA en ec))/\W.cell? (U r 1)=G (V rv) J a5)->aa Y W L->(∀y∈Y,y∉[q,p,A,r,rv])->(L.cell? (U q 1)=G (V qv) j a1/\L.cell? (U p 1)=G (V A) t B/\L.cell? (U A i)=some ((Value.slice eA en ec))/\L.cell? (U r 1)=G (V rv) J a5)):=bZ (fun W L Y h1 h2 h3=>⟨h2.cellEq h1.1 (fun d=>h3 _ d (by simp)),h2.cellEq h1.2.1 (fun d=>h3 _ d (by simp)),h2.cellEq h1.2.2.1 (fun d=>h3 _ d (by simp)),h2.cellEq h1.2.2.2 (fun d=>h3 _ d (by simp))⟩)) | have P:Z (∀(W L:World) (Y:List Nat),(W.cell? (U q 1)=G (V qv) j a1/\W.cell? (U p 1)=G (V A) t B/\W.cell? (U A i)=some ((I ey))/\W.cell? (U r 1)=G (V rv) J a5)->aa Y W L->(∀y∈Y,y∉[q,p,A,r,rv])->(L.cell? (U q 1)=G (V qv) j a1/\L.cell? (U p 1)=G (V A) t B/\L.cell? (U A i)=some ((I ey))/\L.cell? (U r 1)=G (V rv) J a5)):=bZ (fun W L Y h1 h2 h3=>⟨h2.cellEq h1.1 (fun d=>h3 _ d (by simp)),h2.cellEq h1.2.1 (fun d=>h3 _ d (by simp)),h2.cellEq h1.2.2.1 (fun d=>h3 _ d (by simp)),h2.cellEq h1.2.2.2 (fun d=>h3 _ d (by simp))⟩)
  have E:Z (∀y∈fb (V qv),y∉[q,p,A,r,rv]):=bZ (cG hN 6 [4,0,2,7,9] rfl rfl (by decide));have hL:Z (∀x∈[q,p,A,r,rv],x<w1.drew.heap.size):=bZ (by
   intro x hx;simp only[Db,Dw,or_false] at hx;rcases hx with rfl | rfl | rfl | rfl | rfl
   ·exact NQ.2.2
   ·exact C.2.2
   ·exact(aw C.2.1 (by simp[fb])).2.1
   ·exact NR.2.2
   exact(aw NR.2.1 (by simp[fb])).2.1)
  clear hN a2 ak ac C NQ NR b5 b;go_wp2_with fail
  first | (have:=a;refine ad (S:=(fun w':World=>w'.cell? (U q 1)=G (V qv) j a1/\w'.cell? (U p 1)=G (V A) t B/\w'.cell? (U A i)=some ((Value.slice eA en ec))/\w'.cell? (U r 1)=G (V rv) J a5)) (n:=21) (by kernel_rfl) ?_) | refine ad (S:=(fun w':World=>w'.cell? (U q 1)=G (V qv) j a1/\w'.cell? (U p 1)=G (V A) t B/\w'.cell? (U A i)=some ((I ey))/\w'.cell? (U r 1)=G (V rv) J a5)) (n:=21) (by kernel_rfl) ?_
  generalize w1.drew=wd at*;obtain⟨wc,b0⟩:∃x,x=wd:=⟨_,rfl⟩;have Ka:Z (aa [] wd wc):=bZ (by rw[b0];exact aa.refl _ _);rw[<-b0] at RQ T f ⊢;clear b0;refine ord [0,1,2,3,4,5,6,7,8,9,10,11,14,15,16,17] ?_
  iterate 16 (refine tq f ?_;try simp only[PT,Y1,Y2,Y3])
  refine av ?_;refine J1 12 fun K O=>?_;dsimp only[Y1,Y2,Y3];go_simp;obtain⟨b1,bb⟩:∃g,g=wc.heap.size:=⟨_,rfl⟩
  first | (have:=a;have kz:aa [] wc (wc.alloc (.cells #[(Value.slice eA en ec)] 62)):=(aa.refl [] wc).alloc _) | have kz:aa [] wc (wc.alloc (.cells #[(I ey)] 2)):=(aa.refl [] wc).alloc _
  first | (have:=a;have B1:=bZ (Blk.new wc 62 #[(Value.slice eA en ec)])) | have B1:=bZ (Blk.new wc 2 #[(I ey)])
  replace RQ:=bZ (ab RQ.o kz);replace T:=bZ (T.o.keep kz (by simp));have Kb:=bZ (Ka.o.trans kz);have f:=P.o _ _ [] f kz (by simp);refine O _ _ (.inr f) ?_;clear O K kz;rw[<-bb] at B1 ⊢
  first | (have:=a;generalize wc.alloc (.cells #[(Value.slice eA en ec)] 62)=wz at*) | generalize wc.alloc (.cells #[(I ey)] 2)=wz at*
  obtain⟨w3,c8⟩:∃x,x=wz:=⟨_,rfl⟩;subst c8;clear bb
  try simp only[PT,Y1,Y2,Y3]
  refine J1 13 fun K O=>?_;dsimp only[Y1,Y2,Y3]
  first | (have:=a;refine am (.tmp 48) (.tmp 56) 198 (by rfl) 0 62 bl (.slice none 0 0) 1 24 Tryz.underlying198 u.o ar.o an.o ap.o rfl (by decide) (.slice (V qv) j a1) j (vq) (by rfl) RQ.o (V b1) 1 _ [(Value.slice eA en ec)] (by rfl) (by simp[]) (by have:=aI (off:=0) (l:=[(Value.slice eA en ec)]) B1.o (by simp) 1;exact this) (by simp;exact b7.o) (by unfold maxLen;omega) (by omega) (C3 _) ?_) | (refine am (.tmp 48) (.tmp 56) 207 (by rfl) 0 2 bl (I 0) 1 8 Tryz.underlying207 u.o ar.o an.o ap.o rfl (by decide) (.slice (V qv) j a1) j (vq) (by rfl) RQ.o (V b1) 1 _ [(I ey)] (by rfl) (by simp[]) (by have:=aI (off:=0) (l:=[(I ey)]) B1.o (by simp) 1;exact this) (by simp;exact b7.o) (by unfold maxLen;omega) (by omega) (C3 _) ?_)
  intro v4 w4 q1 q2 q3 q4;obtain⟨cj,d1,rfl,o,k,nf⟩:=dz q1 q2 q4;clear q1 q2 q3 q4;have ky:Z (aa (fb (V qv)) wd w4):=bZ (Kb.o.nil.trans k.o);have ny:Z (∀g∈fb cj,g∈fb (V qv)\/wd.heap.size<=g):=bZ (fun g hg=>(nf.o g hg).imp_right (Dc Kb.o.size));replace T:=bZ (T.o.keep k.o (fun y hy d=>E.o y hy (by rw[show fb (V rv)=[rv] from rfl,CZ] at d;rw[d];simp)));have f:=P.o _ _ _ f k.o E.o;refine O _ _ (.inr f) ?_;clear O K k nf RQ B1 Kb;obtain⟨w5,c9⟩:∃x,x=w4:=⟨_,rfl⟩;subst c9
  try simp only[PT,Y1,Y2,Y3]
  refine J1 18 fun K O=>?_;dsimp only[Y1,Y2,Y3]
  first | (have:=a;refine am (.tmp 57) (.tmp 61) 198 (by rfl) 0 62 bl (.slice none 0 0) 1 24 Tryz.underlying198 u.o ar.o an.o ap.o rfl (by decide) (.slice cj (j+1) d1) (j+1) (vq++[(Value.slice eA en ec)]) (by rfl) o.o ((V rv)) J _ vr (by rfl) (by simp[r2.o]) T.o bp.o (by unfold maxLen;omega) (by omega) (C3 _) ?_) | (refine am (.tmp 57) (.tmp 61) 207 (by rfl) 0 2 bl (I 0) 1 8 Tryz.underlying207 u.o ar.o an.o ap.o rfl (by decide) (.slice cj (j+1) d1) (j+1) (vq++[(I ey)]) (by rfl) o.o ((V rv)) J _ vr (by rfl) (by simp[r2.o]) T.o bp.o (by unfold maxLen;omega) (by omega) (C3 _) ?_)
  intro v4 w4 q1 q2 q3 q4;obtain⟨d3,dl,rfl,o,k,nf⟩:=dz q1 q2 q4;clear q1 q2 q3 q4;have a3:Z (aa (fb (V qv)) wd w4):=bZ (ky.o.more k.o ny.o);have nz:Z (∀g∈fb d3,g∈fb (V qv)\/wd.heap.size<=g):=bZ (fun g hg=>by
   rcases nf.o g hg with h | h
   ·exact ny.o g h
   exact .inr (Dc ky.o.size h))
  have f:=P.o _ _ _ f k.o (xP ny.o E.o hL.o);have QB:=s.o.Q.blk.keep a3.o (aW.1 s.o.Q.nd).1.2.1;have qb:=QB.cell 1;have qf:=QB.frozen;clear QB;refine O _ _ (.inr f) ?_;clear O K k nf ky ny
  try simp only[PT,Y1,Y2,Y3]
  refine ord [19,20] ?_
  iterate 2 (refine tq f ?_;try simp only[PT,Y1,Y2,Y3])
  refine av ?_;refine JQ 21 ?_
  try simp only[PT,Y1,Y2,Y3]
  refine JD ?_
  first | (have:=a;have b:=bZ (let N:=s.o.Q.vals1 (vs':=vq++[(Value.slice eA en ec)]++vr) (n':=j+1+J) (by simp[m2.o,r2.o]<;>omega) o.o a3.o nz.o;s.o.stQ N.1 N.2.1 qG N.2.2)) | (have b:=bZ (let N:=s.o.Q.vals1 (vs':=vq++[(I ey)]++vr) (n':=j+1+J) (by simp[m2.o,r2.o]<;>omega) o.o a3.o nz.o;s.o.stQ N.1 N.2.1 qG N.2.2))
  clear o a3 nz T f;go_wp2_with fail;obtain⟨w2,cn⟩:∃x,x=w4.setCell (U q 1) (.slice d3 (j+1+J) dl):=⟨_,rfl⟩;rw[<-cn] at b ⊢;clear cn qb qf;obtain⟨qv,c1,ee,_,_,_,_,_,_⟩:=ax b.o.Q.rv (by simp<;>omega);injection ee with e1 _ e2;subst e1 e2;clear s P hL E Ka;have s:=bZ b.o.drew;obtain⟨hN,a2,ak,ac⟩:=s.o.ls
  first | (have:=a;have NQ:=s.o.Q.num (by simp[m1.o,r1.o]<;>omega:(kq++[(I M)]++kr).length=j+1+J) (by simp[m2.o,r2.o]<;>omega) m3.o) | (have NQ:=s.o.Q.num (by simp[m1.o,r1.o]<;>omega:(kq++[(Value.string M)]++kr).length=j+1+J) (by simp[m2.o,r2.o]<;>omega) m3.o)
  have NR:=s.o.R.num r1.o r2.o r3.o;have f:w2.drew.cell? (U q 2)=G b9 dq c3/\w2.drew.cell? (U r 2)=G c4 dr cd:=⟨NQ.1.cell 2,NR.1.cell 2⟩;have RQ:=bZ NQ.2.2.2;have T:=bZ (pY NR.2.2.2);have c7:Z (∀y∈fb b9,y≠q/\y≠r):=bZ (fun y hy=>⟨fun e=>a2 y hy (by simp[e]),fun e=>a2 y hy (by simp[e])⟩);clear hN a2 ak ac NQ NR b;go_wp2_with fail;refine ad (S:=(fun w':World=>w'.cell? (U q 2)=G b9 dq c3/\w'.cell? (U r 2)=G c4 dr cd)) (n:=12) (by kernel_rfl) ?_;generalize w2.drew=wd at*;refine ord [0,1,2,3,4,5,6,7,8] ?_
  iterate 9 (refine tq f ?_;try simp only[PT,Y1,Y2,Y3])
  refine av ?_;refine J1 9 fun K O=>?_;dsimp only[Y1,Y2,Y3]
  first | (have:=a;refine am (.tmp 69) (.tmp 73) 208 (by rfl) 0 202 cc (.pointer none) 1 8 Tryz.underlying208 hp.o bi.o bd.o bh.o rfl (by decide) (.slice b9 dq c3) dq (cq.map ptr) (by rfl) RQ.o c4 dr _ (cr.map ptr) (by rfl) (by simp[r3.o]) T.o (fun v u=>by obtain⟨c,_,rfl⟩:=Dt.1 u;rfl) (by unfold maxLen;omega) (by omega) (C3 _) ?_) | (refine am (.tmp 69) (.tmp 73) 252 (by rfl) 0 248 cc (.pointer none) 1 8 Tryz.underlying252 hp.o bi.o bd.o bh.o rfl (by decide) (.slice b9 dq c3) dq (cq.map ptr) (by rfl) RQ.o c4 dr _ (cr.map ptr) (by rfl) (by simp[r3.o]) T.o (fun v u=>by obtain⟨c,_,rfl⟩:=Dt.1 u;rfl) (by unfold maxLen;omega) (by omega) (C3 _) ?_)
  intro v4 w4 q1 q2 q3 q4;obtain⟨d6,d7,rfl,o,k,nf⟩:=dz q1 q2 q4;clear q1 q2 q3 q4;have f:w4.cell? (U q 2)=G b9 dq c3/\w4.cell? (U r 2)=G c4 dr cd:=⟨k.o.cellEq f.1 (fun d=>(c7.o q d).1 rfl),k.o.cellEq f.2 (fun d=>(c7.o r d).2 rfl)⟩;have QB:=s.o.Q.blk.keep k.o (aW.1 s.o.Q.nd).1.2.2;have qb:=QB.cell 2;have qf:=QB.frozen;clear QB;refine O _ _ (.inr f) ?_;clear O K
  try simp only[PT,Y1,Y2,Y3]
  refine ord [10,11] ?_
  iterate 2 (refine tq f ?_;try simp only[PT,Y1,Y2,Y3])
  refine av ?_;refine JQ 12 ?_
  try simp only[PT,Y1,Y2,Y3]
  refine JD ?_;have b:=bZ (let N:=s.o.Q.kids (cs':=cq++cr) (n':=dq+dr) (by simp[m3.o,r3.o]) (by have:=o.o;rwa [<-DX] at this) k.o nf.o;s.o.stQ N.1 N.2.1 eP N.2.2);clear o k nf T f RQ c7;go_wp2_with fail;obtain⟨w7,co⟩:∃x,x=w4.setCell (U q 2) (.slice d6 (dq+dr) d7):=⟨_,rfl⟩;rw[<-co] at b ⊢;clear co qb qf s;have s:=bZ b.o.drew;obtain⟨hN,a2,ak,ac⟩:=s.o.ls;have C:=s.o.X.num l1.o l2.o l3.o;have f:w7.drew.cell? (U p 0)=G (V H) (t) z/\w7.drew.cell? (U p 1)=G (V A) (t) B:=⟨C.1.cell 0,C.1.cell 1⟩;have RK:=bZ C.2.1;have RV:=bZ C.2.2.1;have XB:=bZ C.1;have ba:Z (∀y∈[H],y∉[p,A]):=bZ (cG hN 1 [0,2] rfl rfl (by decide));have c5:Z (∀y∈[A],y∉[p,H]):=bZ (cG hN 2 [0,1] rfl rfl (by decide));clear hN a2 ak ac C b;go_wp2_with fail;refine bj (by kernel_rfl) ?_;refine JW 1 ?_
  try simp only[PT,Y1,Y2,Y3]
  refine bu (S:=(fun w':World=>w'.cell? (U p 0)=G (V H) (t) z/\w'.cell? (U p 1)=G (V A) (t) B)) (n:=20) _ _ _ _ ?_;generalize w7.drew=wd at*;refine ord [0,2,3,4,5,6,7,8,10,11,12,13,14,15,16] ?_
  iterate 15 (refine tq f ?_;try simp only[PT,Y1,Y2,Y3])
  refine av ?_;refine J1 9 fun K O=>?_;dsimp only[Y1,Y2,Y3];go_simp
  first | (have:=a;refine(Et (cw.1 _ H (i) (i+1) (m) (t) (i+m) z (ks) l1.o rfl hn.o rfl RK.o bs.o (by omega)) ?_)) | refine(Et (cw.2.2.2.1 _ H (i) (i+1) (m) (t) (i+m) z (ks) l1.o rfl hn.o rfl RK.o bs.o (by omega)) ?_)
  rintro e w4 ⟨rfl,o1,k1⟩;have f:w4.cell? (U p 0)=G (V H) (t) z/\w4.cell? (U p 1)=G (V A) (t) B:=⟨k1.o.cellEq f.1 (fun d=>ba.o _ d (by simp)),k1.o.cellEq f.2 (fun d=>ba.o _ d (by simp))⟩;replace RV:=bZ (aq RV.o k1.o (fun y hy d=>ba.o y hy (by rw[show fb (V A)=[A] from rfl,CZ] at d;rw[d];simp)));replace XB:=bZ (XB.o.keep k1.o (fun d=>ba.o _ d (by simp)));refine O _ _ (.inr f) ?_;clear O K RK
  try simp only[PT,Y1,Y2,Y3]
  refine J1 17 fun K O=>?_;dsimp only[Y1,Y2,Y3];go_simp
  first | (have:=a;refine(Et (cw.2.1 _ A (i) (i+1) (m) (t) (i+m) B (vs) l2.o rfl hn.o rfl RV.o c2.o (by omega)) ?_)) | refine(Et (cw.1 _ A (i) (i+1) (m) (t) (i+m) B (vs) l2.o rfl hn.o rfl RV.o c2.o (by omega)) ?_)
  rintro e w5 ⟨rfl,o2,k2⟩;have f:w5.cell? (U p 0)=G (V H) (t) z/\w5.cell? (U p 1)=G (V A) (t) B:=⟨k2.o.cellEq f.1 (fun d=>c5.o _ d (by simp)),k2.o.cellEq f.2 (fun d=>c5.o _ d (by simp))⟩;replace XB:=bZ (XB.o.keep k2.o (fun d=>c5.o _ d (by simp)));have da:=XB.o.cell 0;have db:=XB.o.cell 1;have xf:=XB.o.frozen;refine O _ _ (.inr f) ?_;clear O K RV
  try simp only[PT,Y1,Y2,Y3]
  refine ord [18,19] ?_
  iterate 2 (refine tq f ?_;try simp only[PT,Y1,Y2,Y3])
  refine av ?_;refine JQ 20 ?_
  try simp only[PT,Y1,Y2,Y3]
  refine JQ 21 ?_
  try simp only[PT,Y1,Y2,Y3]
  refine JQ 22 ?_
  try simp only[PT,Y1,Y2,Y3]
  refine JQ 23 ?_
  try simp only[PT,Y1,Y2,Y3]
  refine JD ?_;have b:=bZ (let N:=s.o.X.two (ks':=(ks).eraseIdx (i)) (vs':=(vs).eraseIdx (i)) (n':=i+m) (by rw[DT,l1.o,if_pos (by have:=hn.o;omega)];have:=hn.o;omega) (by rw[DT,l2.o,if_pos (by have:=hn.o;omega)];have:=hn.o;omega) o1.o k1.o (fun g hg=>.inl hg) o2.o k2.o (fun g hg=>.inl hg);s.o.stX N.1 N.2.1 bV N.2.2);clear o1 o2 k1 k2 f ba c5;obtain⟨w8,cp⟩:∃x,x=(w5.setCell (U p 0) (.slice (V H) (i+m) z)).setCell (U p 1) (.slice (V A) (i+m) B):=⟨_,rfl⟩;rw[<-cp] at b ⊢;clear cp da db xf XB s;have C:=b.o.X.num (n:=i+m) (m:=t+1) (by rw[DT,l1.o,if_pos (by have:=hn.o;omega)];have:=hn.o;omega) (by rw[DT,l2.o,if_pos (by have:=hn.o;omega)];have:=hn.o;omega) l3.o;have x2:=C.1.cell 2;have XB:=bZ C.1
  first | (have:=a;have D:=cw.2.2.1 w8 xc (i+1) (i+2) m (t+1) (i+1+m) cv (cs.map ptr) (by rw[Df,l3.o]) rfl (by have:=hn.o;omega) rfl C.2.2.2 (fun v u=>by obtain⟨c,_,rfl⟩:=Dt.1 u;rfl) (by omega)) | (have D:=cw.2.2.2.2 w8 xc (i+1) (i+2) m (t+1) (i+1+m) cv (cs.map ptr) (by rw[Df,l3.o]) rfl (by have:=hn.o;omega) rfl C.2.2.2 (fun v u=>by obtain⟨c,_,rfl⟩:=Dt.1 u;rfl) (by omega))
  rw[show ((i+1:Nat):Int)=(i:Int)+1 from by omega,show ((i+2:Nat):Int)=(i:Int)+2 from by omega] at D;have d5:Z (p≠xc):=bZ (fun e=>(aW.1 b.o.X.nd).1.2.2 (by simp[fb,e]));clear C;go_wp2_with fail;refine D.mono ?_;clear D;rintro e w9 ⟨rfl,o,k⟩;have X9:=XB.o.keep k.o (by simp[d5.o]);have e5:=X9.cell 2;have e6:=X9.frozen;clear X9 XB x2;have cl:=bZ (let N:=b.o.X.kids (cs':=cs.eraseIdx (i+1)) (n':=i+1+m) (by rw[DT,l3.o,if_pos (by have:=hn.o;omega)];have:=hn.o;omega) (by have:=o.o;rwa [show (cs.map ptr).eraseIdx (i+1)=(cs.eraseIdx (i+1)).map ptr from lG cs (i+1)] at this) k.o (fun g hg=>.inl hg);b.o.stX N.1 N.2.1 eP N.2.2);clear b o k;go_wp2_with fail
  first | (have:=a;refine bodyPost_ret (v:=.tuple #[]) (by simp[results,Tryz.results208,go_sem]) rfl ?_) | refine bodyPost_ret (v:=.tuple #[]) (by simp[results,Tryz.results210,go_sem]) rfl ?_
  exact⟨_,_,_,_,_,_,_,_,_,_,_,_,_,_,_,_,_,_,_,_,rfl,b8.o,a6.o,cl⟩
theorem aj {w:World} {b e n c g j:Nat} {d:List Value} {u:Value} (h:w.ownsRow b e 1 (.slice (V g) n c) n d) (f:d[j]? =some u):w.cell? (U g j)=some u:=by
 have o:d.length=n:=by have:=h.1;simpa using this
 have k:=(CV.1 f).1;obtain⟨m,l,a,_,_,_,_,i,_⟩:=ax h (by omega);injection a with a _ _;injection a with a;injection a with a;subst a;exact i _ _ f
theorem jh {w:World} {b e n c g:Nat} {k:List Value} (h:w.ownsRow b e 1 (.slice (V g) n c) n k) (i:0<n) (j:Nat):w.frozen? (U g j)=false:=by
 obtain⟨m,l,a,_,_,_,_,_,d,f⟩:=ax h i;injection a with a _ _;injection a with a;injection a with a;subst a;exact f.frozen j
def zD (T:BTy) (w:World) (p q r:Nat) (H K E J M N:List Value) (cs z L:List Nat) (j a:Nat) (F:List Nat) (e:Ending) (w':World):Prop:=
 ∃u x s d g b l n i v y t f h c m o k A B C D,e=.returned (.tuple #[])/\H[j]? =some A/\K[j]? =some B/\E[a]? =some C/\J[a]? =some D/\
  Z (aE T w w' p q r u x s d g b l n i v y t f h c m o k (H.set j C) (K.set j D) (E.eraseIdx a) (J.eraseIdx a) (A::M) (B::N) cs (z.eraseIdx (a+1)) ((z[a+1]?).toList++L) F)
def zC (T:BTy) (w:World) (p q r:Nat) (E J L M D H:List Value) (cs K y:List Nat) (j:Nat) (F:List Nat) (e:Ending) (w':World):Prop:=
 ∃t v o c f a k m h u x s d g b l n i z A B C,e=.returned (.tuple #[])/\E[j]? =some z/\J[j]? =some A/\D[0]? =some B/\H[0]? =some C/\
  Z (aE T w w' p q r t v o c f a k m h u x s d g b l n i (E.set j B) (J.set j C) (L++[z]) (M++[A]) (D.eraseIdx 0) (H.eraseIdx 0) cs (K++(y[0]?).toList) (y.eraseIdx 0) F)
def Bg (w:World) (cs:List Nat) (j:Nat):Prop:=j=0\/∃(a b:Nat) (A:Option Addr) (d c:Nat),j=a+1/\cs[a]? =some b/\w.cell? (U b 0)=G A d c/\d<=7
def Bf (w:World) (cs:List Nat) (j d:Nat):Prop:=j=d\/∃(a:Nat) (A:Option Addr) (b c:Nat),j<d/\cs[j+1]? =some a/\w.cell? (U a 0)=G A b c/\b<=7
end Go.Proofs.YtmlmfpikncogpaaGreat
